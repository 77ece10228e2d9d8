import Derived.Test.YtnmgamcmjjngcaaU4
set_option linter.unusedVariables false
set_option linter.unusedSimpArgs false
namespace Go.Proofs.Ytnmgamcmjjngcaa
open Go.Av

theorem one_wait (l : List Fly) : ∀ a ∈ (l.map Fly.cells).flatten, a.one = true := by
  intro a ha
  obtain ⟨e, he, hae⟩ := List.mem_flatten.1 ha
  obtain ⟨f, hf, rfl⟩ := List.mem_map.1 he
  exact one_fly f _ (List.mem_singleton.2 rfl) a hae

theorem wait_split (l : List Fly) (i : Nat) : (l.map Fly.cells).flatten = ((l.take i).map Fly.cells).flatten ++ ((l.drop i).map Fly.cells).flatten := by
  rw [← List.flatten_append, ← List.map_append, List.take_append_drop]

theorem over_length (cs xs : List AV) (off : Nat) (h : off + xs.length ≤ cs.length) : (over cs off xs).length = cs.length := by
  unfold over
  simp only [List.length_append, List.length_take, List.length_drop]
  omega

/-- slices.Delete[[]plenum/mesh.flying,plenum/mesh.flying] -/
def r59 : RCode :=
  (.seq (.region [
    ⟨(some 6), none, .act, .mv (.const (.slice none 0 0))⟩])
  (.seq (.region [
    ⟨(some 8), none, .act, .mv (.tmp 0)⟩,
    ⟨(some 9), none, .act, .mv (.tmp 1)⟩,
    ⟨(some 10), none, .act, .mv (.tmp 2)⟩,
    ⟨(some 11), none, .act, .mv (.tmp 0)⟩,
    ⟨(some 12), none, .act, .len (.tmp 11)⟩,
    ⟨(some 13), none, .act, .sliceSl 15 (.tmp 8) (some (.tmp 9)) (some (.tmp 10)) (some (.tmp 12))⟩])
  (.seq (.seq (.region [
    ⟨(some 14), none, .act, .mv (.tmp 1)⟩,
    ⟨(some 15), none, .act, .mv (.tmp 2)⟩,
    ⟨(some 16), none, .act, .eq false .int (.tmp 14) (.tmp 15)⟩])
  (.cond (.tmp 16)
   (.seq (.region [
     ⟨(some 17), none, .act, .mv (.tmp 0)⟩,
     ⟨(some 6), none, .act, .mv (.tmp 17)⟩])
   .ret)
   .skip))
  (.seq (.region [
    ⟨(some 18), none, .act, .mv (.tmp 0)⟩,
    ⟨(some 19), none, .act, .len (.tmp 18)⟩,
    ⟨(some 7), none, .act, .mv (.tmp 19)⟩])
  (.seq (.region [
    ⟨(some 20), none, .pure, .mv (.tmp 0)⟩,
    ⟨(some 21), none, .pure, .mv (.tmp 1)⟩,
    ⟨(some 22), none, .pure, .sliceSl 15 (.tmp 20) none (some (.tmp 21)) none⟩,
    ⟨(some 23), none, .pure, .mv (.tmp 0)⟩,
    ⟨(some 24), none, .pure, .mv (.tmp 2)⟩,
    ⟨(some 25), none, .pure, .sliceSl 15 (.tmp 23) (some (.tmp 24)) none none⟩,
    ⟨(some 26), none, .act, .append 15 168 [(.int .i64 0), (.int .u64 0), (.int .u64 0), (.int .u64 0), (.int .u64 0), (.int .u64 0), (.int .u64 0), (.int .u64 0), (.bool false), (.slice none 0 0), (.int .u64 0), (.int .u64 0), (.slice none 0 0), (.slice none 0 0), (.int .i64 0)] (.tmp 22) (.tmp 25)⟩,
    ⟨(some 0), none, .pure, .mv (.tmp 26)⟩])
  (.seq (.region [
    ⟨(some 27), none, .act, .mv (.tmp 0)⟩,
    ⟨(some 28), none, .act, .mv (.tmp 0)⟩,
    ⟨(some 29), none, .act, .len (.tmp 28)⟩,
    ⟨(some 30), none, .act, .mv (.tmp 7)⟩,
    ⟨(some 31), none, .act, .sliceSl 15 (.tmp 27) (some (.tmp 29)) (some (.tmp 30)) none⟩,
    ⟨none, none, .act, .clearSl 15 [(.int .i64 0), (.int .u64 0), (.int .u64 0), (.int .u64 0), (.int .u64 0), (.int .u64 0), (.int .u64 0), (.int .u64 0), (.bool false), (.slice none 0 0), (.int .u64 0), (.int .u64 0), (.slice none 0 0), (.slice none 0 0), (.int .i64 0)] (.tmp 31)⟩])
  (.seq (.region [
    ⟨(some 32), none, .act, .mv (.tmp 0)⟩,
    ⟨(some 6), none, .act, .mv (.tmp 32)⟩])
  .ret)))))))
theorem res59 : ∃ c, Try.f59.body = some c ∧ resCode Try.prog 33 c = some r59 := ⟨_, rfl, by kernel_rfl⟩
theorem rr59 : resRes Try.prog Try.f59.results.toList = some [.tmp 6] := by kernel_rfl
/-- slices.Delete of one message. -/
theorem delete_spec (l : List Fly) (i : Nat) (hi : i < l.length) (b cap : Nat) (sp : List AV) (hl : l.length ≤ 1000000) (hc : l.length ≤ cap) (hm : cap ≤ maxLen) (hsp : sp.length = (cap - l.length) * 15) (h : AHeap) (hb : h b = some (.box ((l.map Fly.cells).flatten ++ sp))) :
    ACalls Try.prog 59 [slAt b 0 l.length cap, i64 i, i64 (i + 1 : Nat)] h (fun x h' => x = slAt b 0 (l.length - 1) cap ∧ ∃ sp', sp'.length = (cap - (l.length - 1)) * 15 ∧ h' = h.set b (.box (((l.eraseIdx i).map Fly.cells).flatten ++ sp'))) := by
  have hwl := waitLen l
  have hcs : ((l.map Fly.cells).flatten ++ sp).length = cap * 15 := by
    rw [List.length_append, hwl, hsp, ← Nat.add_mul]; congr 1; omega
  obtain ⟨c, hc1, hc2⟩ := res59
  refine ACalls.enter Try.func59 hc1 Try.ntmps59 hc2 (Nat.le_of_ble_eq_true rfl) rfl ?_
  generalize hcs' : (l.map Fly.cells).flatten ++ sp = cs at hb hcs
  obtain ⟨off2, hoff, hfit2⟩ : ∃ off2, (if cap = ((i + 1 : Nat) : Int).toNat then some (⟨b, 0, none⟩ : Addr) else some ⟨b, 0 + ((i + 1 : Nat) : Int).toNat * 15, none⟩) = some ⟨b, off2, none⟩ ∧ (off2 = (i + 1) * 15 ∨ off2 = 0 ∧ l.length = i + 1) := by
    split
    · next e => exact ⟨0, rfl, .inr ⟨rfl, by simp at e; omega⟩⟩
    · exact ⟨_, rfl, .inl (by simp)⟩
  have hX : (cs.drop off2).take ((l.length - ((i + 1 : Nat) : Int).toNat) * 15) = ((l.drop (i + 1)).map Fly.cells).flatten := by
    have hn : l.length - ((i + 1 : Nat) : Int).toNat = (l.drop (i + 1)).length := by simp
    rw [hn, ← waitLen]
    rcases hfit2 with e | ⟨e, e2⟩
    · rw [e, ← hcs', wait_split l (i + 1), List.append_assoc]
      have : (i + 1) * 15 = ((l.take (i + 1)).map Fly.cells).flatten.length := by rw [waitLen, List.length_take]; congr 1; omega
      rw [this, List.drop_left, List.take_left]
    · rw [List.drop_of_length_le (show l.length ≤ i + 1 by omega)]; rfl
  have hXl : ((l.drop (i + 1)).map Fly.cells).flatten.length = (l.length - (i + 1)) * 15 := by rw [waitLen, List.length_drop]
  have hfit3 : off2 + (l.length - ((i + 1 : Nat) : Int).toNat) * 15 ≤ cs.length := by
    rw [hcs]
    rcases hfit2 with e | ⟨e, e2⟩
    · simp; omega
    · simp; omega
  repeat' (first
    | refine S.nilK ?_
    | (refine S.op rfl ?_; first
      | refine S.sliceVLHM rfl rfl rfl rfl (by omega) (by omega) (by omega) (by omega) ?_
      | refine S.sliceVH rfl rfl (by omega) (by omega) ?_
      | refine S.sliceVL rfl rfl (by omega) (by omega) (by omega) ?_
      | refine R.mv rfl ?_
      | refine R.fieldAddr rfl ?_
      | refine R.fieldAddrR rfl ?_
      | refine R.nilCheck rfl ?_
      | refine R.nilCheckR rfl ?_
      | refine R.loadR rfl rfl ?_
      | refine R.load (by decide) rfl (by (repeat' (first | assumption | exact AHeap.set_same _ _ _ | refine AHeap.get_fresh (by assumption) ?_ | refine AHeap.so ?_ ?_ | exact AHeap.n1 (by assumption) | exact AHeap.n2 (by assumption) | exact AHeap.ne_of (by assumption) (by assumption) | exact AHeap.n4 (by assumption) (by assumption) | exact AHeap.n5 (by assumption) | exact AHeap.n6 (by assumption) | exact AHeap.n7 (by assumption) (by assumption) | exact AHeap.n8 (by assumption) (by assumption))); first | done | fail) rfl ?_
      | refine S.addI rfl rfl (by omega) ?_
      | refine S.subI rfl rfl (by omega) ?_
      | refine S.addU rfl rfl ?_
      | refine S.subU rfl rfl ?_
      | refine S.addUc rfl (by decide) ?_
      | refine S.subUc rfl (by decide) ?_
      | refine S.arith rfl rfl rfl ?_
      | refine R.pickT rfl rfl ?_
      | refine R.pickF rfl rfl ?_
      | refine R.len rfl ?_
      | refine R.lenA rfl ?_
      | refine R.lenStr rfl ?_
      | refine S.convIU rfl (by omega) ?_
      | refine S.convUI rfl (by omega) ?_
      | refine R.convInt rfl ?_
      | refine R.not rfl ?_
      | refine R.eqPtrNil rfl rfl ?_
      | refine R.extract rfl rfl ?_
      | refine R.field rfl rfl ?_
      | refine R.alloc rfl (fun b hb => ?_)
      | refine R.box rfl rfl rfl (fun b hb => ?_)
      | refine R.build rfl rfl ?_
      | refine R.buildSl rfl rfl rfl (by decide) ?_
      | refine R.toStr rfl ?_
      | refine R.convStr rfl ?_
      | refine R.minmax rfl ?_
      | refine R.makeFunc rfl rfl ?_
      | (first | refine S.lss rfl rfl (fun hlt => ?_) (fun hlt => by exfalso; omega) | refine S.lss rfl rfl (fun hlt => by exfalso; omega) (fun hlt => ?_) | refine S.lss rfl rfl (fun hlt => ?_) (fun hlt => ?_))
      | (first | refine S.gtr rfl rfl (fun hlt => ?_) (fun hlt => by exfalso; omega) | refine S.gtr rfl rfl (fun hlt => by exfalso; omega) (fun hlt => ?_) | refine S.gtr rfl rfl (fun hlt => ?_) (fun hlt => ?_))
      | (first | refine S.leq rfl rfl (fun hlt => ?_) (fun hlt => by exfalso; omega) | refine S.leq rfl rfl (fun hlt => by exfalso; omega) (fun hlt => ?_) | refine S.leq rfl rfl (fun hlt => ?_) (fun hlt => ?_))
      | (first | refine S.geq rfl rfl (fun hlt => ?_) (fun hlt => by exfalso; omega) | refine S.geq rfl rfl (fun hlt => by exfalso; omega) (fun hlt => ?_) | refine S.geq rfl rfl (fun hlt => ?_) (fun hlt => ?_))
      | (first | refine S.eqInt rfl rfl (fun hlt => ?_) (fun hlt => by exfalso; omega) | refine S.eqInt rfl rfl (fun hlt => by exfalso; omega) (fun hlt => ?_) | refine S.eqInt rfl rfl (fun hlt => ?_) (fun hlt => ?_)))
    | (refine S.op0 rfl ?_; first | refine S.storeS rfl rfl rfl (by rfl) rfl (by first | decide | exact Nat.le_refl _ | exact Nat.le_of_ble_eq_true rfl) ?_ | refine S.store rfl rfl (by (repeat' (first | assumption | exact AHeap.set_same _ _ _ | refine AHeap.get_fresh (by assumption) ?_ | refine AHeap.so ?_ ?_ | exact AHeap.n1 (by assumption) | exact AHeap.n2 (by assumption) | exact AHeap.ne_of (by assumption) (by assumption) | exact AHeap.n4 (by assumption) (by assumption) | exact AHeap.n5 (by assumption) | exact AHeap.n6 (by assumption) | exact AHeap.n7 (by assumption) (by assumption) | exact AHeap.n8 (by assumption) (by assumption))); first | done | fail) rfl rfl rfl (by rfl) rfl ?_)
    | refine S.skip rfl ?_
    | refine S.skip0 rfl ?_
    | refine S.seq ?_
    | refine S.region ?_
    | refine S.regionT ?_
    | refine S.tstep ?_
    | refine S.talt ?_ ?_
    | exact S.tstop
    | refine S.tdone ?_
    | refine S.condT rfl ?_
    | refine S.condF rfl ?_
    | refine RRun.skip ?_
    | refine RRun.block ?_
    | refine RRun.inBlock ?_
    | refine RRun.exit rfl ?_)
  rw [hoff]
  refine S.op rfl (R.appendSelf rfl rfl hb (by rw [hcs]; omega) rfl hfit3 (by rw [hX]; exact one_wait _) (by simp; omega) ?_)
  have hlen1 : ((i : Nat) : Int).toNat + (l.length - ((i + 1 : Nat) : Int).toNat) = l.length - 1 := by simp; omega
  rw [hX, hlen1, show 0 + ((i : Nat) : Int).toNat * 15 = i * 15 by simp]
  have hol := over_length cs ((l.drop (i + 1)).map Fly.cells).flatten (i * 15) (by rw [hXl, hcs]; omega)
  repeat' (first
    | refine S.nilK ?_
    | (refine S.op rfl ?_; first
      | refine S.sliceVLH rfl rfl rfl (by omega) (by omega) (by omega) ?_
      | refine R.mv rfl ?_
      | refine R.fieldAddr rfl ?_
      | refine R.fieldAddrR rfl ?_
      | refine R.nilCheck rfl ?_
      | refine R.nilCheckR rfl ?_
      | refine R.loadR rfl rfl ?_
      | refine R.load (by decide) rfl (by (repeat' (first | assumption | exact AHeap.set_same _ _ _ | refine AHeap.get_fresh (by assumption) ?_ | refine AHeap.so ?_ ?_ | exact AHeap.n1 (by assumption) | exact AHeap.n2 (by assumption) | exact AHeap.ne_of (by assumption) (by assumption) | exact AHeap.n4 (by assumption) (by assumption) | exact AHeap.n5 (by assumption) | exact AHeap.n6 (by assumption) | exact AHeap.n7 (by assumption) (by assumption) | exact AHeap.n8 (by assumption) (by assumption))); first | done | fail) rfl ?_
      | refine S.addI rfl rfl (by omega) ?_
      | refine S.subI rfl rfl (by omega) ?_
      | refine S.addU rfl rfl ?_
      | refine S.subU rfl rfl ?_
      | refine S.addUc rfl (by decide) ?_
      | refine S.subUc rfl (by decide) ?_
      | refine S.arith rfl rfl rfl ?_
      | refine R.pickT rfl rfl ?_
      | refine R.pickF rfl rfl ?_
      | refine R.len rfl ?_
      | refine R.lenA rfl ?_
      | refine R.lenStr rfl ?_
      | refine S.convIU rfl (by omega) ?_
      | refine S.convUI rfl (by omega) ?_
      | refine R.convInt rfl ?_
      | refine R.not rfl ?_
      | refine R.eqPtrNil rfl rfl ?_
      | refine R.extract rfl rfl ?_
      | refine R.field rfl rfl ?_
      | refine R.alloc rfl (fun b hb => ?_)
      | refine R.box rfl rfl rfl (fun b hb => ?_)
      | refine R.build rfl rfl ?_
      | refine R.buildSl rfl rfl rfl (by decide) ?_
      | refine R.toStr rfl ?_
      | refine R.convStr rfl ?_
      | refine R.minmax rfl ?_
      | refine R.makeFunc rfl rfl ?_
      | (first | refine S.lss rfl rfl (fun hlt => ?_) (fun hlt => by exfalso; omega) | refine S.lss rfl rfl (fun hlt => by exfalso; omega) (fun hlt => ?_) | refine S.lss rfl rfl (fun hlt => ?_) (fun hlt => ?_))
      | (first | refine S.gtr rfl rfl (fun hlt => ?_) (fun hlt => by exfalso; omega) | refine S.gtr rfl rfl (fun hlt => by exfalso; omega) (fun hlt => ?_) | refine S.gtr rfl rfl (fun hlt => ?_) (fun hlt => ?_))
      | (first | refine S.leq rfl rfl (fun hlt => ?_) (fun hlt => by exfalso; omega) | refine S.leq rfl rfl (fun hlt => by exfalso; omega) (fun hlt => ?_) | refine S.leq rfl rfl (fun hlt => ?_) (fun hlt => ?_))
      | (first | refine S.geq rfl rfl (fun hlt => ?_) (fun hlt => by exfalso; omega) | refine S.geq rfl rfl (fun hlt => by exfalso; omega) (fun hlt => ?_) | refine S.geq rfl rfl (fun hlt => ?_) (fun hlt => ?_))
      | (first | refine S.eqInt rfl rfl (fun hlt => ?_) (fun hlt => by exfalso; omega) | refine S.eqInt rfl rfl (fun hlt => by exfalso; omega) (fun hlt => ?_) | refine S.eqInt rfl rfl (fun hlt => ?_) (fun hlt => ?_)))
    | (refine S.op0 rfl ?_; first | refine S.storeS rfl rfl rfl (by rfl) rfl (by first | decide | exact Nat.le_refl _ | exact Nat.le_of_ble_eq_true rfl) ?_ | refine S.store rfl rfl (by (repeat' (first | assumption | exact AHeap.set_same _ _ _ | refine AHeap.get_fresh (by assumption) ?_ | refine AHeap.so ?_ ?_ | exact AHeap.n1 (by assumption) | exact AHeap.n2 (by assumption) | exact AHeap.ne_of (by assumption) (by assumption) | exact AHeap.n4 (by assumption) (by assumption) | exact AHeap.n5 (by assumption) | exact AHeap.n6 (by assumption) | exact AHeap.n7 (by assumption) (by assumption) | exact AHeap.n8 (by assumption) (by assumption))); first | done | fail) rfl rfl rfl (by rfl) rfl ?_)
    | refine S.skip rfl ?_
    | refine S.skip0 rfl ?_
    | refine S.seq ?_
    | refine S.region ?_
    | refine S.regionT ?_
    | refine S.tstep ?_
    | refine S.talt ?_ ?_
    | exact S.tstop
    | refine S.tdone ?_
    | refine S.condT rfl ?_
    | refine S.condF rfl ?_
    | refine RRun.skip ?_
    | refine RRun.block ?_
    | refine RRun.inBlock ?_
    | refine RRun.exit rfl ?_)
  rw [if_neg (by simp; omega), show 0 + ((l.length - 1 : Nat) : Int).toNat * 15 = (l.length - 1) * 15 by simp, show ((l.length : Nat) : Int).toNat - ((l.length - 1 : Nat) : Int).toNat = 1 by simp; omega]
  refine S.op0 rfl (R.clearOwn rfl rfl (by decide) (AHeap.set_same _ _ _) (by rw [hol, hcs]; omega) (by decide) ?_)
  repeat' (first
    | refine S.nilK ?_
    | (refine S.op rfl ?_; first
      | refine R.mv rfl ?_
      | refine R.fieldAddr rfl ?_
      | refine R.fieldAddrR rfl ?_
      | refine R.nilCheck rfl ?_
      | refine R.nilCheckR rfl ?_
      | refine R.loadR rfl rfl ?_
      | refine R.load (by decide) rfl (by (repeat' (first | assumption | exact AHeap.set_same _ _ _ | refine AHeap.get_fresh (by assumption) ?_ | refine AHeap.so ?_ ?_ | exact AHeap.n1 (by assumption) | exact AHeap.n2 (by assumption) | exact AHeap.ne_of (by assumption) (by assumption) | exact AHeap.n4 (by assumption) (by assumption) | exact AHeap.n5 (by assumption) | exact AHeap.n6 (by assumption) | exact AHeap.n7 (by assumption) (by assumption) | exact AHeap.n8 (by assumption) (by assumption))); first | done | fail) rfl ?_
      | refine S.addI rfl rfl (by omega) ?_
      | refine S.subI rfl rfl (by omega) ?_
      | refine S.addU rfl rfl ?_
      | refine S.subU rfl rfl ?_
      | refine S.addUc rfl (by decide) ?_
      | refine S.subUc rfl (by decide) ?_
      | refine S.arith rfl rfl rfl ?_
      | refine R.pickT rfl rfl ?_
      | refine R.pickF rfl rfl ?_
      | refine R.len rfl ?_
      | refine R.lenA rfl ?_
      | refine R.lenStr rfl ?_
      | refine S.convIU rfl (by omega) ?_
      | refine S.convUI rfl (by omega) ?_
      | refine R.convInt rfl ?_
      | refine R.not rfl ?_
      | refine R.eqPtrNil rfl rfl ?_
      | refine R.extract rfl rfl ?_
      | refine R.field rfl rfl ?_
      | refine R.alloc rfl (fun b hb => ?_)
      | refine R.box rfl rfl rfl (fun b hb => ?_)
      | refine R.build rfl rfl ?_
      | refine R.buildSl rfl rfl rfl (by decide) ?_
      | refine R.toStr rfl ?_
      | refine R.convStr rfl ?_
      | refine R.minmax rfl ?_
      | refine R.makeFunc rfl rfl ?_
      | (first | refine S.lss rfl rfl (fun hlt => ?_) (fun hlt => by exfalso; omega) | refine S.lss rfl rfl (fun hlt => by exfalso; omega) (fun hlt => ?_) | refine S.lss rfl rfl (fun hlt => ?_) (fun hlt => ?_))
      | (first | refine S.gtr rfl rfl (fun hlt => ?_) (fun hlt => by exfalso; omega) | refine S.gtr rfl rfl (fun hlt => by exfalso; omega) (fun hlt => ?_) | refine S.gtr rfl rfl (fun hlt => ?_) (fun hlt => ?_))
      | (first | refine S.leq rfl rfl (fun hlt => ?_) (fun hlt => by exfalso; omega) | refine S.leq rfl rfl (fun hlt => by exfalso; omega) (fun hlt => ?_) | refine S.leq rfl rfl (fun hlt => ?_) (fun hlt => ?_))
      | (first | refine S.geq rfl rfl (fun hlt => ?_) (fun hlt => by exfalso; omega) | refine S.geq rfl rfl (fun hlt => by exfalso; omega) (fun hlt => ?_) | refine S.geq rfl rfl (fun hlt => ?_) (fun hlt => ?_))
      | (first | refine S.eqInt rfl rfl (fun hlt => ?_) (fun hlt => by exfalso; omega) | refine S.eqInt rfl rfl (fun hlt => by exfalso; omega) (fun hlt => ?_) | refine S.eqInt rfl rfl (fun hlt => ?_) (fun hlt => ?_)))
    | (refine S.op0 rfl ?_; first | refine S.storeS rfl rfl rfl (by rfl) rfl (by first | decide | exact Nat.le_refl _ | exact Nat.le_of_ble_eq_true rfl) ?_ | refine S.store rfl rfl (by (repeat' (first | assumption | exact AHeap.set_same _ _ _ | refine AHeap.get_fresh (by assumption) ?_ | refine AHeap.so ?_ ?_ | exact AHeap.n1 (by assumption) | exact AHeap.n2 (by assumption) | exact AHeap.ne_of (by assumption) (by assumption) | exact AHeap.n4 (by assumption) (by assumption) | exact AHeap.n5 (by assumption) | exact AHeap.n6 (by assumption) | exact AHeap.n7 (by assumption) (by assumption) | exact AHeap.n8 (by assumption) (by assumption))); first | done | fail) rfl rfl rfl (by rfl) rfl ?_)
    | refine S.skip rfl ?_
    | refine S.skip0 rfl ?_
    | refine S.seq ?_
    | refine S.region ?_
    | refine S.regionT ?_
    | refine S.tstep ?_
    | refine S.talt ?_ ?_
    | exact S.tstop
    | refine S.tdone ?_
    | refine S.condT rfl ?_
    | refine S.condF rfl ?_
    | refine RRun.skip ?_
    | refine RRun.block ?_
    | refine RRun.inBlock ?_
    | refine RRun.exit rfl ?_)
  apply S.ret rr59
  case hx => repeat (first | exact ResAt.nil | apply ResAt.tmp rfl | apply ResAt.cellA rfl (by (repeat' (first | assumption | exact AHeap.set_same _ _ _ | refine AHeap.get_fresh (by assumption) ?_ | refine AHeap.so ?_ ?_ | exact AHeap.n1 (by assumption) | exact AHeap.n2 (by assumption) | exact AHeap.ne_of (by assumption) (by assumption) | exact AHeap.n4 (by assumption) (by assumption) | exact AHeap.n5 (by assumption) | exact AHeap.n6 (by assumption) | exact AHeap.n7 (by assumption) (by assumption) | exact AHeap.n8 (by assumption) (by assumption))); first | done | fail) (by rfl) | apply ResAt.cell1 rfl (by (repeat' (first | assumption | exact AHeap.set_same _ _ _ | refine AHeap.get_fresh (by assumption) ?_ | refine AHeap.so ?_ ?_ | exact AHeap.n1 (by assumption) | exact AHeap.n2 (by assumption) | exact AHeap.ne_of (by assumption) (by assumption) | exact AHeap.n4 (by assumption) (by assumption) | exact AHeap.n5 (by assumption) | exact AHeap.n6 (by assumption) | exact AHeap.n7 (by assumption) (by assumption) | exact AHeap.n8 (by assumption) (by assumption))); first | done | fail) (by rfl))
  refine ⟨rfl, ?_⟩
  have hA : ((l.take i).map Fly.cells).flatten.length = i * 15 := by rw [waitLen, List.length_take]; congr 1; omega
  have hsplit : cs = ((l.take i).map Fly.cells).flatten ++ (((l.drop i).map Fly.cells).flatten ++ sp) := by rw [← hcs', wait_split l i, List.append_assoc]
  have hDl : (((l.drop i).map Fly.cells).flatten ++ sp).length = (l.length - i) * 15 + sp.length := by rw [List.length_append, waitLen, List.length_drop]
  have h1 : over cs (i * 15) ((l.drop (i + 1)).map Fly.cells).flatten = ((l.eraseIdx i).map Fly.cells).flatten ++ (((l.drop i).map Fly.cells).flatten ++ sp).drop ((l.drop (i + 1)).map Fly.cells).flatten.length := by
    rw [hsplit, over_app _ _ _ _ hA.symm, List.eraseIdx_eq_take_drop_succ, List.map_append, List.flatten_append]
  have hEl : ((l.eraseIdx i).map Fly.cells).flatten.length = (l.length - 1) * 15 := by rw [waitLen, List.length_eraseIdx, if_pos hi]
  rw [h1, over_app _ _ _ _ hEl.symm]
  refine ⟨List.replicate (1 * 15) .any ++ ((((l.drop i).map Fly.cells).flatten ++ sp).drop ((l.drop (i + 1)).map Fly.cells).flatten.length).drop (List.replicate (1 * 15) AV.any).length, ?_, ?_⟩
  · rw [List.length_append, List.length_drop, List.length_drop, hDl, hXl, List.length_replicate, hsp]
    omega
  · rw [AHeap.set_set, List.append_assoc]

end Go.Proofs.Ytnmgamcmjjngcaa
