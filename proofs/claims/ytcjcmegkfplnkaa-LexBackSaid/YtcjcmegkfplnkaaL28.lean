import Derived.Test.YtcjcmegkfplnkaaL27
set_option linter.unusedVariables false
set_option linter.unusedSimpArgs false
namespace Go.Proofs.Ytcjcmegkfplnkaa
open Go.Av

theorem Good.fits {t : Tok} (h : Good t) : Fits t.n := by
  cases h <;> simp only <;> omega

theorem told_puts {s : List UInt8} (hs : s.length ≤ 2000) : Puts (cutS s).1 ∧ (putT (cutS s).1).length ≤ 2000000 ∧ (cutS (putT (cutS s).1)).1.map Tok.key = (cutS s).1.map Tok.key ∧ (cutS (putT (cutS s).1)).2 = none ∧ (cutS s).1.length ≤ 400 ∧ (cutS (putT (cutS s).1)).1.length ≤ 400 := by
  have hlen : (cutS s).1.length ≤ 400 := cutF_len (s.length + 1) s 0 0 (by decide)
  have hgood : ∀ x ∈ (cutS s).1, Good x ∧ x.s.length ≤ s.length := cutF_good (s.length + 1) s 0 0
  have hb := cut_back (cutS s).1 (fun t ht => (hgood t ht).1) hlen
  refine ⟨⟨by omega, fun t ht => ⟨by have := (hgood t ht).2; omega, (hgood t ht).1.fits⟩⟩, ?_, hb.1, hb.2, hlen, cutF_len _ _ 0 0 (by decide)⟩
  have htl : ∀ t ∈ (cutS s).1, (tokText t).length ≤ 4020 := fun t ht => by
    have h1 := tokText_len (hgood t ht).1.fits
    have h2 := (hgood t ht).2
    omega
  generalize (cutS s).1 = ts at hlen htl
  cases ts with
  | nil => simp [putT]
  | cons t ts =>
    rw [putT_rest, List.length_append]
    have h1 := htl t (by simp)
    have h2 := restT_len ts 4020 (fun t ht => htl t (List.mem_cons_of_mem _ ht))
    simp only [List.length_cons] at hlen
    omega

/-- plenum/plenumlaw19.LexBack -/
def r5 : RCode :=
  (.seq (.region [
    ⟨(some 2), none, .act, .mv (.const (.bool false))⟩])
  (.seq (.seq (.region [
    ⟨(some 9), none, .act, .call 6 []⟩,
    ⟨(some 10), none, .act, .un .not (.tmp 9)⟩])
  (.cond (.tmp 10)
   (.seq (.region [
     ⟨(some 2), none, .act, .mv (.const (.bool false))⟩])
   .ret)
   .skip))
  (.seq (.seq (.region [
    ⟨(some 11), none, .act, .mv (.tmp 0)⟩,
    ⟨(some 12), none, .act, .lenStr (.tmp 11)⟩,
    ⟨(some 13), none, .act, .bin .gtr (.tmp 12) (.const (.int .i64 2000))⟩])
  (.cond (.tmp 13)
   (.seq (.region [
     ⟨(some 2), none, .act, .mv (.const (.bool true))⟩])
   .ret)
   .skip))
  (.seq (.region [
    ⟨(some 15), none, .act, .mv (.tmp 0)⟩,
    ⟨(some 16), none, .act, .call 8 [(.tmp 15)]⟩,
    ⟨(some 14), none, .act, .mv (.tmp 16)⟩,
    ⟨(some 17), none, .act, .extract (.tmp 14) 0⟩,
    ⟨(some 18), none, .act, .extract (.tmp 14) 1⟩,
    ⟨(some 19), none, .act, .extract (.tmp 14) 2⟩,
    ⟨(some 3), none, .act, .mv (.tmp 17)⟩,
    ⟨(some 4), none, .act, .mv (.tmp 18)⟩,
    ⟨(some 5), none, .act, .mv (.tmp 19)⟩])
  (.seq (.seq (.region [
    ⟨(some 20), none, .act, .mv (.tmp 5)⟩,
    ⟨(some 21), none, .act, .eq true .int (.tmp 20) (.const (.int .i64 0))⟩])
  (.cond (.tmp 21)
   (.seq (.region [
     ⟨(some 2), none, .act, .mv (.const (.bool true))⟩])
   .ret)
   .skip))
  (.seq (.region [
    ⟨(some 23), none, .act, .mv (.tmp 3)⟩,
    ⟨(some 24), none, .act, .call 11 [(.tmp 23)]⟩,
    ⟨(some 25), none, .act, .call 8 [(.tmp 24)]⟩,
    ⟨(some 22), none, .act, .mv (.tmp 25)⟩,
    ⟨(some 26), none, .act, .extract (.tmp 22) 0⟩,
    ⟨(some 27), none, .act, .extract (.tmp 22) 1⟩,
    ⟨(some 28), none, .act, .extract (.tmp 22) 2⟩,
    ⟨(some 6), none, .act, .mv (.tmp 26)⟩,
    ⟨(some 7), none, .act, .mv (.tmp 27)⟩,
    ⟨(some 8), none, .act, .mv (.tmp 28)⟩])
  (.seq (.region [
    ⟨(some 29), none, .act, .mv (.tmp 8)⟩,
    ⟨(some 30), none, .act, .eq false .int (.tmp 29) (.const (.int .i64 0))⟩,
    ⟨(some 31), none, .act, .mv (.tmp 30)⟩,
    ⟨(some 32), (some (31, true)), .act, .mv (.tmp 6)⟩,
    ⟨(some 33), (some (31, true)), .act, .mv (.tmp 3)⟩,
    ⟨(some 34), (some (31, true)), .act, .call 9 [(.tmp 32), (.tmp 33)]⟩,
    ⟨(some 35), none, .act, .pick (.tmp 31) (.tmp 34) (.const (.bool false))⟩,
    ⟨(some 2), none, .act, .mv (.tmp 35)⟩])
  .ret)))))))
theorem res5 : ∃ c, Try.f5.body = some c ∧ resCode Try.prog 36 c = some r5 := ⟨_, rfl, by kernel_rfl⟩
theorem rr5 : resRes Try.prog Try.f5.results.toList = some [.tmp 2] := by kernel_rfl

theorem lexBack_spec (s : List UInt8) (h : AHeap) : ACalls Try.prog 5 [str s] h (fun x h' => x = bl true ∧ h' = h) := by
  obtain ⟨c, hc1, hc2⟩ := res5
  refine ACalls.enter Try.func5 hc1 Try.ntmps5 hc2 (Nat.le_of_ble_eq_true rfl) rfl ?_
  by_cases hs : s.length ≤ 2000
  · obtain ⟨hp, hpl, hk, hn, hl, hl2⟩ := told_puts hs
    have hcall1 := all_spec s (by omega) h
    have hcall2 := all_spec (putT (cutS s).1) hpl h
    have hput := put11_spec (cutS s).1 hp h
    have hsame := same_spec' (cutS (putT (cutS s).1)).1 (cutS s).1 (by omega) hk h
    have ha2 : allAns (cutS (putT (cutS s).1)) = .tu [toksA (cutS (putT (cutS s).1)).1 .ro, i64 0, i64 0] := by unfold allAns; rw [hn]
    rw [ha2] at hcall2
    cases he : (cutS s).2 with
    | none =>
      have ha1 : allAns (cutS s) = .tu [toksA (cutS s).1 .ro, i64 0, i64 0] := by unfold allAns; rw [he]
      rw [ha1] at hcall1
      generalize (cutS (putT (cutS s).1)).1 = us at *
      generalize putT (cutS s).1 = ps at *
      generalize (cutS s).1 = ts at *
      repeat' (first | refine S.nilK ?_ | (refine S.op rfl ?_; first | refine S.lenS rfl ?_ | refine callS rfl rfl (awake_spec _) ?_ | refine callS rfl rfl hcall1 ?_ | refine callS rfl rfl hcall2 ?_ | refine callS rfl rfl hput ?_ | refine callS rfl rfl hsame ?_ | refine S.eqIntSame rfl rfl ?_ | refine R.mv rfl ?_ | refine R.fieldAddr rfl ?_ | refine R.fieldAddrR rfl ?_ | refine R.nilCheck rfl ?_ | refine R.nilCheckR rfl ?_ | refine R.loadR rfl rfl ?_ | refine R.load (by decide) rfl (by (repeat' (first | assumption | exact AHeap.set_same _ _ _ | refine AHeap.get_fresh (by assumption) ?_ | refine AHeap.so ?_ ?_ | exact AHeap.n1 (by assumption) | exact AHeap.n2 (by assumption) | exact AHeap.ne_of (by assumption) (by assumption) | exact AHeap.n4 (by assumption) (by assumption) | exact AHeap.n5 (by assumption) | exact AHeap.n6 (by assumption) | exact AHeap.n7 (by assumption) (by assumption) | exact AHeap.n8 (by assumption) (by assumption))); first | done | fail) rfl ?_ | refine S.addI rfl rfl (by omega) ?_ | refine S.subI rfl rfl (by omega) ?_ | refine S.addU rfl rfl ?_ | refine S.subU rfl rfl ?_ | refine S.addUc rfl (by decide) ?_ | refine S.subUc rfl (by decide) ?_ | refine S.arith rfl rfl rfl ?_ | refine R.pickT rfl rfl ?_ | refine R.pickF rfl rfl ?_ | refine R.len rfl ?_ | refine R.lenA rfl ?_ | refine R.lenStr rfl ?_ | refine S.convIU rfl (by omega) ?_ | refine S.convUI rfl (by omega) ?_ | refine R.convInt rfl ?_ | refine R.not rfl ?_ | refine R.eqPtrNil rfl rfl ?_ | refine R.extract rfl rfl ?_ | refine R.field rfl rfl ?_ | refine R.alloc rfl (fun b hb => ?_) | refine R.box rfl rfl rfl (fun b hb => ?_) | refine R.build rfl rfl ?_ | refine R.buildSl rfl rfl rfl (by decide) ?_ | refine R.toStr rfl ?_ | refine R.convStr rfl ?_ | refine R.minmax rfl ?_ | refine R.makeFunc rfl rfl ?_ | (first | refine S.lss rfl rfl (fun hlt => ?_) (fun hlt => by exfalso; omega) | refine S.lss rfl rfl (fun hlt => by exfalso; omega) (fun hlt => ?_) | refine S.lss rfl rfl (fun hlt => ?_) (fun hlt => ?_)) | (first | refine S.gtr rfl rfl (fun hlt => ?_) (fun hlt => by exfalso; omega) | refine S.gtr rfl rfl (fun hlt => by exfalso; omega) (fun hlt => ?_) | refine S.gtr rfl rfl (fun hlt => ?_) (fun hlt => ?_)) | (first | refine S.leq rfl rfl (fun hlt => ?_) (fun hlt => by exfalso; omega) | refine S.leq rfl rfl (fun hlt => by exfalso; omega) (fun hlt => ?_) | refine S.leq rfl rfl (fun hlt => ?_) (fun hlt => ?_)) | (first | refine S.geq rfl rfl (fun hlt => ?_) (fun hlt => by exfalso; omega) | refine S.geq rfl rfl (fun hlt => by exfalso; omega) (fun hlt => ?_) | refine S.geq rfl rfl (fun hlt => ?_) (fun hlt => ?_)) | (first | refine S.eqInt rfl rfl (fun hlt => ?_) (fun hlt => by exfalso; omega) | refine S.eqInt rfl rfl (fun hlt => by exfalso; omega) (fun hlt => ?_) | refine S.eqInt rfl rfl (fun hlt => ?_) (fun hlt => ?_))) | (refine S.op0 rfl ?_; first | refine S.storeS rfl rfl rfl (by rfl) rfl (by first | decide | exact Nat.le_refl _ | exact Nat.le_of_ble_eq_true rfl) ?_ | refine S.store rfl rfl (by (repeat' (first | assumption | exact AHeap.set_same _ _ _ | refine AHeap.get_fresh (by assumption) ?_ | refine AHeap.so ?_ ?_ | exact AHeap.n1 (by assumption) | exact AHeap.n2 (by assumption) | exact AHeap.ne_of (by assumption) (by assumption) | exact AHeap.n4 (by assumption) (by assumption) | exact AHeap.n5 (by assumption) | exact AHeap.n6 (by assumption) | exact AHeap.n7 (by assumption) (by assumption) | exact AHeap.n8 (by assumption) (by assumption))); first | done | fail) rfl rfl rfl (by rfl) rfl ?_) | refine S.skip rfl ?_ | refine S.skip0 rfl ?_ | refine S.seq ?_ | refine S.region ?_ | refine S.regionT ?_ | refine S.tstep ?_ | refine S.talt ?_ ?_ | exact S.tstop | refine S.tdone ?_ | refine S.condT rfl ?_ | refine S.condF rfl ?_ | refine RRun.skip ?_ | refine RRun.block ?_ | refine RRun.inBlock ?_ | refine RRun.exit rfl ?_)
      apply S.ret rr5
      case hx => repeat (first | exact ResAt.nil | apply ResAt.tmp rfl | apply ResAt.cellA rfl (by (repeat' (first | assumption | exact AHeap.set_same _ _ _ | refine AHeap.get_fresh (by assumption) ?_ | refine AHeap.so ?_ ?_ | exact AHeap.n1 (by assumption) | exact AHeap.n2 (by assumption) | exact AHeap.ne_of (by assumption) (by assumption) | exact AHeap.n4 (by assumption) (by assumption) | exact AHeap.n5 (by assumption) | exact AHeap.n6 (by assumption) | exact AHeap.n7 (by assumption) (by assumption) | exact AHeap.n8 (by assumption) (by assumption))); first | done | fail) (by rfl) | apply ResAt.cell1 rfl (by (repeat' (first | assumption | exact AHeap.set_same _ _ _ | refine AHeap.get_fresh (by assumption) ?_ | refine AHeap.so ?_ ?_ | exact AHeap.n1 (by assumption) | exact AHeap.n2 (by assumption) | exact AHeap.ne_of (by assumption) (by assumption) | exact AHeap.n4 (by assumption) (by assumption) | exact AHeap.n5 (by assumption) | exact AHeap.n6 (by assumption) | exact AHeap.n7 (by assumption) (by assumption) | exact AHeap.n8 (by assumption) (by assumption))); first | done | fail) (by rfl))
      exact ⟨rfl, rfl⟩
    | some ep =>
      obtain ⟨e, pos⟩ := ep
      have ha1 : allAns (cutS s) = .tu [toksA [] .ro, i64 pos, i64 e] := by unfold allAns; rw [he]
      have he0 : e = 2 ∨ e = 190 := cutF_err _ _ _ _ e pos he
      rw [ha1] at hcall1
      repeat' (first | refine S.nilK ?_ | (refine S.op rfl ?_; first | refine S.lenS rfl ?_ | refine callS rfl rfl (awake_spec _) ?_ | refine callS rfl rfl hcall1 ?_ | refine R.mv rfl ?_ | refine R.fieldAddr rfl ?_ | refine R.fieldAddrR rfl ?_ | refine R.nilCheck rfl ?_ | refine R.nilCheckR rfl ?_ | refine R.loadR rfl rfl ?_ | refine R.load (by decide) rfl (by (repeat' (first | assumption | exact AHeap.set_same _ _ _ | refine AHeap.get_fresh (by assumption) ?_ | refine AHeap.so ?_ ?_ | exact AHeap.n1 (by assumption) | exact AHeap.n2 (by assumption) | exact AHeap.ne_of (by assumption) (by assumption) | exact AHeap.n4 (by assumption) (by assumption) | exact AHeap.n5 (by assumption) | exact AHeap.n6 (by assumption) | exact AHeap.n7 (by assumption) (by assumption) | exact AHeap.n8 (by assumption) (by assumption))); first | done | fail) rfl ?_ | refine S.addI rfl rfl (by omega) ?_ | refine S.subI rfl rfl (by omega) ?_ | refine S.addU rfl rfl ?_ | refine S.subU rfl rfl ?_ | refine S.addUc rfl (by decide) ?_ | refine S.subUc rfl (by decide) ?_ | refine S.arith rfl rfl rfl ?_ | refine R.pickT rfl rfl ?_ | refine R.pickF rfl rfl ?_ | refine R.len rfl ?_ | refine R.lenA rfl ?_ | refine R.lenStr rfl ?_ | refine S.convIU rfl (by omega) ?_ | refine S.convUI rfl (by omega) ?_ | refine R.convInt rfl ?_ | refine R.not rfl ?_ | refine R.eqPtrNil rfl rfl ?_ | refine R.extract rfl rfl ?_ | refine R.field rfl rfl ?_ | refine R.alloc rfl (fun b hb => ?_) | refine R.box rfl rfl rfl (fun b hb => ?_) | refine R.build rfl rfl ?_ | refine R.buildSl rfl rfl rfl (by decide) ?_ | refine R.toStr rfl ?_ | refine R.convStr rfl ?_ | refine R.minmax rfl ?_ | refine R.makeFunc rfl rfl ?_ | (first | refine S.lss rfl rfl (fun hlt => ?_) (fun hlt => by exfalso; omega) | refine S.lss rfl rfl (fun hlt => by exfalso; omega) (fun hlt => ?_) | refine S.lss rfl rfl (fun hlt => ?_) (fun hlt => ?_)) | (first | refine S.gtr rfl rfl (fun hlt => ?_) (fun hlt => by exfalso; omega) | refine S.gtr rfl rfl (fun hlt => by exfalso; omega) (fun hlt => ?_) | refine S.gtr rfl rfl (fun hlt => ?_) (fun hlt => ?_)) | (first | refine S.leq rfl rfl (fun hlt => ?_) (fun hlt => by exfalso; omega) | refine S.leq rfl rfl (fun hlt => by exfalso; omega) (fun hlt => ?_) | refine S.leq rfl rfl (fun hlt => ?_) (fun hlt => ?_)) | (first | refine S.geq rfl rfl (fun hlt => ?_) (fun hlt => by exfalso; omega) | refine S.geq rfl rfl (fun hlt => by exfalso; omega) (fun hlt => ?_) | refine S.geq rfl rfl (fun hlt => ?_) (fun hlt => ?_)) | (first | refine S.eqInt rfl rfl (fun hlt => ?_) (fun hlt => by exfalso; omega) | refine S.eqInt rfl rfl (fun hlt => by exfalso; omega) (fun hlt => ?_) | refine S.eqInt rfl rfl (fun hlt => ?_) (fun hlt => ?_))) | (refine S.op0 rfl ?_; first | refine S.storeS rfl rfl rfl (by rfl) rfl (by first | decide | exact Nat.le_refl _ | exact Nat.le_of_ble_eq_true rfl) ?_ | refine S.store rfl rfl (by (repeat' (first | assumption | exact AHeap.set_same _ _ _ | refine AHeap.get_fresh (by assumption) ?_ | refine AHeap.so ?_ ?_ | exact AHeap.n1 (by assumption) | exact AHeap.n2 (by assumption) | exact AHeap.ne_of (by assumption) (by assumption) | exact AHeap.n4 (by assumption) (by assumption) | exact AHeap.n5 (by assumption) | exact AHeap.n6 (by assumption) | exact AHeap.n7 (by assumption) (by assumption) | exact AHeap.n8 (by assumption) (by assumption))); first | done | fail) rfl rfl rfl (by rfl) rfl ?_) | refine S.skip rfl ?_ | refine S.skip0 rfl ?_ | refine S.seq ?_ | refine S.region ?_ | refine S.regionT ?_ | refine S.tstep ?_ | refine S.talt ?_ ?_ | exact S.tstop | refine S.tdone ?_ | refine S.condT rfl ?_ | refine S.condF rfl ?_ | refine RRun.skip ?_ | refine RRun.block ?_ | refine RRun.inBlock ?_ | refine RRun.exit rfl ?_)
      apply S.ret rr5
      case hx => repeat (first | exact ResAt.nil | apply ResAt.tmp rfl | apply ResAt.cellA rfl (by (repeat' (first | assumption | exact AHeap.set_same _ _ _ | refine AHeap.get_fresh (by assumption) ?_ | refine AHeap.so ?_ ?_ | exact AHeap.n1 (by assumption) | exact AHeap.n2 (by assumption) | exact AHeap.ne_of (by assumption) (by assumption) | exact AHeap.n4 (by assumption) (by assumption) | exact AHeap.n5 (by assumption) | exact AHeap.n6 (by assumption) | exact AHeap.n7 (by assumption) (by assumption) | exact AHeap.n8 (by assumption) (by assumption))); first | done | fail) (by rfl) | apply ResAt.cell1 rfl (by (repeat' (first | assumption | exact AHeap.set_same _ _ _ | refine AHeap.get_fresh (by assumption) ?_ | refine AHeap.so ?_ ?_ | exact AHeap.n1 (by assumption) | exact AHeap.n2 (by assumption) | exact AHeap.ne_of (by assumption) (by assumption) | exact AHeap.n4 (by assumption) (by assumption) | exact AHeap.n5 (by assumption) | exact AHeap.n6 (by assumption) | exact AHeap.n7 (by assumption) (by assumption) | exact AHeap.n8 (by assumption) (by assumption))); first | done | fail) (by rfl))
      exact ⟨rfl, rfl⟩
  ·
    repeat' (first | refine S.nilK ?_ | (refine S.op rfl ?_; first | refine S.lenS rfl ?_ | refine callS rfl rfl (awake_spec _) ?_ | refine R.mv rfl ?_ | refine R.fieldAddr rfl ?_ | refine R.fieldAddrR rfl ?_ | refine R.nilCheck rfl ?_ | refine R.nilCheckR rfl ?_ | refine R.loadR rfl rfl ?_ | refine R.load (by decide) rfl (by (repeat' (first | assumption | exact AHeap.set_same _ _ _ | refine AHeap.get_fresh (by assumption) ?_ | refine AHeap.so ?_ ?_ | exact AHeap.n1 (by assumption) | exact AHeap.n2 (by assumption) | exact AHeap.ne_of (by assumption) (by assumption) | exact AHeap.n4 (by assumption) (by assumption) | exact AHeap.n5 (by assumption) | exact AHeap.n6 (by assumption) | exact AHeap.n7 (by assumption) (by assumption) | exact AHeap.n8 (by assumption) (by assumption))); first | done | fail) rfl ?_ | refine S.addI rfl rfl (by omega) ?_ | refine S.subI rfl rfl (by omega) ?_ | refine S.addU rfl rfl ?_ | refine S.subU rfl rfl ?_ | refine S.addUc rfl (by decide) ?_ | refine S.subUc rfl (by decide) ?_ | refine S.arith rfl rfl rfl ?_ | refine R.pickT rfl rfl ?_ | refine R.pickF rfl rfl ?_ | refine R.len rfl ?_ | refine R.lenA rfl ?_ | refine R.lenStr rfl ?_ | refine S.convIU rfl (by omega) ?_ | refine S.convUI rfl (by omega) ?_ | refine R.convInt rfl ?_ | refine R.not rfl ?_ | refine R.eqPtrNil rfl rfl ?_ | refine R.extract rfl rfl ?_ | refine R.field rfl rfl ?_ | refine R.alloc rfl (fun b hb => ?_) | refine R.box rfl rfl rfl (fun b hb => ?_) | refine R.build rfl rfl ?_ | refine R.buildSl rfl rfl rfl (by decide) ?_ | refine R.toStr rfl ?_ | refine R.convStr rfl ?_ | refine R.minmax rfl ?_ | refine R.makeFunc rfl rfl ?_ | (first | refine S.lss rfl rfl (fun hlt => ?_) (fun hlt => by exfalso; omega) | refine S.lss rfl rfl (fun hlt => by exfalso; omega) (fun hlt => ?_) | refine S.lss rfl rfl (fun hlt => ?_) (fun hlt => ?_)) | (first | refine S.gtr rfl rfl (fun hlt => ?_) (fun hlt => by exfalso; omega) | refine S.gtr rfl rfl (fun hlt => by exfalso; omega) (fun hlt => ?_) | refine S.gtr rfl rfl (fun hlt => ?_) (fun hlt => ?_)) | (first | refine S.leq rfl rfl (fun hlt => ?_) (fun hlt => by exfalso; omega) | refine S.leq rfl rfl (fun hlt => by exfalso; omega) (fun hlt => ?_) | refine S.leq rfl rfl (fun hlt => ?_) (fun hlt => ?_)) | (first | refine S.geq rfl rfl (fun hlt => ?_) (fun hlt => by exfalso; omega) | refine S.geq rfl rfl (fun hlt => by exfalso; omega) (fun hlt => ?_) | refine S.geq rfl rfl (fun hlt => ?_) (fun hlt => ?_)) | (first | refine S.eqInt rfl rfl (fun hlt => ?_) (fun hlt => by exfalso; omega) | refine S.eqInt rfl rfl (fun hlt => by exfalso; omega) (fun hlt => ?_) | refine S.eqInt rfl rfl (fun hlt => ?_) (fun hlt => ?_))) | (refine S.op0 rfl ?_; first | refine S.storeS rfl rfl rfl (by rfl) rfl (by first | decide | exact Nat.le_refl _ | exact Nat.le_of_ble_eq_true rfl) ?_ | refine S.store rfl rfl (by (repeat' (first | assumption | exact AHeap.set_same _ _ _ | refine AHeap.get_fresh (by assumption) ?_ | refine AHeap.so ?_ ?_ | exact AHeap.n1 (by assumption) | exact AHeap.n2 (by assumption) | exact AHeap.ne_of (by assumption) (by assumption) | exact AHeap.n4 (by assumption) (by assumption) | exact AHeap.n5 (by assumption) | exact AHeap.n6 (by assumption) | exact AHeap.n7 (by assumption) (by assumption) | exact AHeap.n8 (by assumption) (by assumption))); first | done | fail) rfl rfl rfl (by rfl) rfl ?_) | refine S.skip rfl ?_ | refine S.skip0 rfl ?_ | refine S.seq ?_ | refine S.region ?_ | refine S.regionT ?_ | refine S.tstep ?_ | refine S.talt ?_ ?_ | exact S.tstop | refine S.tdone ?_ | refine S.condT rfl ?_ | refine S.condF rfl ?_ | refine RRun.skip ?_ | refine RRun.block ?_ | refine RRun.inBlock ?_ | refine RRun.exit rfl ?_)
    apply S.ret rr5
    case hx => repeat (first | exact ResAt.nil | apply ResAt.tmp rfl | apply ResAt.cellA rfl (by (repeat' (first | assumption | exact AHeap.set_same _ _ _ | refine AHeap.get_fresh (by assumption) ?_ | refine AHeap.so ?_ ?_ | exact AHeap.n1 (by assumption) | exact AHeap.n2 (by assumption) | exact AHeap.ne_of (by assumption) (by assumption) | exact AHeap.n4 (by assumption) (by assumption) | exact AHeap.n5 (by assumption) | exact AHeap.n6 (by assumption) | exact AHeap.n7 (by assumption) (by assumption) | exact AHeap.n8 (by assumption) (by assumption))); first | done | fail) (by rfl) | apply ResAt.cell1 rfl (by (repeat' (first | assumption | exact AHeap.set_same _ _ _ | refine AHeap.get_fresh (by assumption) ?_ | refine AHeap.so ?_ ?_ | exact AHeap.n1 (by assumption) | exact AHeap.n2 (by assumption) | exact AHeap.ne_of (by assumption) (by assumption) | exact AHeap.n4 (by assumption) (by assumption) | exact AHeap.n5 (by assumption) | exact AHeap.n6 (by assumption) | exact AHeap.n7 (by assumption) (by assumption) | exact AHeap.n8 (by assumption) (by assumption))); first | done | fail) (by rfl))
    exact ⟨rfl, rfl⟩

end Go.Proofs.Ytcjcmegkfplnkaa
