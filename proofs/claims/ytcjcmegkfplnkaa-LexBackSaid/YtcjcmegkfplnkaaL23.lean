import Derived.Test.YtcjcmegkfplnkaaL22
set_option linter.unusedVariables false
set_option linter.unusedSimpArgs false
namespace Go.Proofs.Ytcjcmegkfplnkaa
open Go.Av

/-- The text of tokens. -/
def putT (ts : List Tok) : List UInt8 := ts.zipIdx.flatMap fun p => (if 0 < p.2 then [32] else []) ++ tokText p.1

theorem putT_snoc (a : List Tok) (t : Tok) : putT (a ++ [t]) = putT a ++ (if 0 < a.length then [32] else []) ++ tokText t := by
  simp [putT, List.zipIdx_append]

theorem putT_take {ts : List Tok} {j : Nat} {t : Tok} (h : ts[j]? = some t) : putT (ts.take (j + 1)) = putT (ts.take j) ++ (if 0 < j then [32] else []) ++ tokText t := by
  have hlt := (List.getElem?_eq_some_iff.1 h).1
  rw [List.take_add_one, h, Option.toList_some, putT_snoc]
  have : (ts.take j).length = j := by simp; omega
  rw [this]

/-- Tokens that may be put. -/
def Puts (ts : List Tok) : Prop := ts.length ≤ 1000 ∧ ∀ t ∈ ts, t.s.length ≤ 1000000 ∧ Fits t.n

theorem putT_len {ts : List Tok} (hp : Puts ts) : ∀ j, j ≤ ts.length → (putT (ts.take j)).length ≤ j * 2000021 := by
  intro j
  induction j with
  | zero => intro _; simp [putT]
  | succ j ih =>
    intro hj
    have h1 : ts[j]? = some ts[j] := List.getElem?_eq_getElem (by omega)
    have h2 := hp.2 ts[j] (List.getElem_mem _)
    have h3 := tokText_len h2.2
    have := ih (by omega)
    rw [putT_take h1, List.length_append, List.length_append]
    have : (if 0 < j then [(32 : UInt8)] else []).length ≤ 1 := by split <;> simp
    omega

def r12l0 : RCode :=
  (.seq (.region [
    ⟨(some 9), none, .act, .bin .lss (.tmp 8) (.tmp 7)⟩])
  (.seq (.cond (.tmp 9)
   .skip
   (.exit 0))
  (.seq (.block 1
   (.seq (.region [
     ⟨(some 10), none, .act, .mv (.tmp 8)⟩,
     ⟨(some 11), none, .act, .indexAddr 4 (.tmp 6) (.tmp 8)⟩,
     ⟨(some 12), none, .act, .load true 4 (.tmp 11)⟩,
     ⟨(some 5), none, .act, .alloc [(.int .i64 0), (.string ⟨#[]⟩), (.int .i64 0), (.int .i64 0)]⟩,
     ⟨(some 4), none, .act, .mv (.tmp 10)⟩,
     ⟨none, none, .act, .store 4 (.tmp 5) (.tmp 12)⟩])
   (.seq (.seq (.region [
     ⟨(some 13), none, .act, .mv (.tmp 4)⟩,
     ⟨(some 14), none, .act, .bin .gtr (.tmp 13) (.const (.int .i64 0))⟩])
   (.cond (.tmp 14)
    (.region [
      ⟨(some 15), none, .act, .mv (.tmp 3)⟩,
      ⟨(some 16), none, .act, .bin .add (.tmp 15) (.const (.string ⟨#[32]⟩))⟩,
      ⟨(some 3), none, .act, .mv (.tmp 16)⟩])
    .skip))
   (.region [
     ⟨(some 17), none, .act, .mv (.tmp 3)⟩,
     ⟨(some 18), none, .act, .load true 4 (.tmp 5)⟩,
     ⟨(some 19), none, .act, .call 19 [(.tmp 18)]⟩,
     ⟨(some 20), none, .act, .bin .add (.tmp 17) (.tmp 19)⟩,
     ⟨(some 3), none, .act, .mv (.tmp 20)⟩]))))
  (.region [
    ⟨(some 21), none, .act, .bin .add (.tmp 8) (.const (.int .i64 1))⟩,
    ⟨(some 8), none, .act, .mv (.tmp 21)⟩]))))
/-- plenum/plenumref19.Put -/
def r12 : RCode :=
  (.seq (.region [
    ⟨(some 2), none, .act, .mv (.const (.string ⟨#[]⟩))⟩])
  (.seq (.region [
    ⟨(some 3), none, .act, .mv (.const (.string ⟨#[]⟩))⟩])
  (.seq (.seq (.region [
    ⟨(some 6), none, .act, .mv (.tmp 0)⟩,
    ⟨(some 7), none, .act, .len (.tmp 6)⟩,
    ⟨(some 8), none, .act, .mv (.const (.int .i64 0))⟩])
  (.block 0
   (.loop r12l0)))
  (.seq (.region [
    ⟨(some 22), none, .act, .mv (.tmp 3)⟩,
    ⟨(some 2), none, .act, .mv (.tmp 22)⟩])
  .ret))))
theorem res12 : ∃ c, Try.f12.body = some c ∧ resCode Try.prog 23 c = some r12 := ⟨_, rfl, by kernel_rfl⟩
theorem rr12 : resRes Try.prog Try.f12.results.toList = some [.tmp 2] := by kernel_rfl

theorem put12_loop (ts : List Tok) (hp : Puts ts) (h : AHeap) (k : List RT) (Q : AV → AHeap → Prop) : ∀ (m j : Nat), j + m = ts.length →
    RRun Try.prog Try.f12 23 k (Env.get [(3, str (putT ts))]) h Q →
    RRun Try.prog Try.f12 23 (.inLoop r12l0 :: .inBlock 0 :: k) (Env.get [(8, i64 j), (7, i64 ts.length), (6, toksA ts .ro), (3, str (putT (ts.take j)))]) h Q := by
  have hla : (ts.map Tok.cells).length = ts.length := by simp
  have hl1 := hp.1
  intro m
  induction m with
  | zero =>
    intro j hj hk
    refine RRun.inLoop ?_
    repeat' (first | refine S.nilK ?_ | (refine S.op rfl ?_; first | refine R.mv rfl ?_ | refine R.fieldAddr rfl ?_ | refine R.fieldAddrR rfl ?_ | refine R.nilCheck rfl ?_ | refine R.nilCheckR rfl ?_ | refine R.loadR rfl rfl ?_ | refine R.load (by decide) rfl (by (repeat' (first | assumption | exact AHeap.set_same _ _ _ | refine AHeap.get_fresh (by assumption) ?_ | refine AHeap.so ?_ ?_ | exact AHeap.n1 (by assumption) | exact AHeap.n2 (by assumption) | exact AHeap.ne_of (by assumption) (by assumption) | exact AHeap.n4 (by assumption) (by assumption) | exact AHeap.n5 (by assumption) | exact AHeap.n6 (by assumption) | exact AHeap.n7 (by assumption) (by assumption) | exact AHeap.n8 (by assumption) (by assumption))); first | done | fail) rfl ?_ | refine S.addI rfl rfl (by omega) ?_ | refine S.subI rfl rfl (by omega) ?_ | refine S.addU rfl rfl ?_ | refine S.subU rfl rfl ?_ | refine S.addUc rfl (by decide) ?_ | refine S.subUc rfl (by decide) ?_ | refine S.arith rfl rfl rfl ?_ | refine R.pickT rfl rfl ?_ | refine R.pickF rfl rfl ?_ | refine R.len rfl ?_ | refine R.lenA rfl ?_ | refine R.lenStr rfl ?_ | refine S.convIU rfl (by omega) ?_ | refine S.convUI rfl (by omega) ?_ | refine R.convInt rfl ?_ | refine R.not rfl ?_ | refine R.eqPtrNil rfl rfl ?_ | refine R.extract rfl rfl ?_ | refine R.field rfl rfl ?_ | refine R.alloc rfl (fun b hb => ?_) | refine R.box rfl rfl rfl (fun b hb => ?_) | refine R.build rfl rfl ?_ | refine R.buildSl rfl rfl rfl (by decide) ?_ | refine R.toStr rfl ?_ | refine R.convStr rfl ?_ | refine R.minmax rfl ?_ | refine R.makeFunc rfl rfl ?_ | (first | refine S.lss rfl rfl (fun hlt => ?_) (fun hlt => by exfalso; omega) | refine S.lss rfl rfl (fun hlt => by exfalso; omega) (fun hlt => ?_) | refine S.lss rfl rfl (fun hlt => ?_) (fun hlt => ?_)) | (first | refine S.gtr rfl rfl (fun hlt => ?_) (fun hlt => by exfalso; omega) | refine S.gtr rfl rfl (fun hlt => by exfalso; omega) (fun hlt => ?_) | refine S.gtr rfl rfl (fun hlt => ?_) (fun hlt => ?_)) | (first | refine S.leq rfl rfl (fun hlt => ?_) (fun hlt => by exfalso; omega) | refine S.leq rfl rfl (fun hlt => by exfalso; omega) (fun hlt => ?_) | refine S.leq rfl rfl (fun hlt => ?_) (fun hlt => ?_)) | (first | refine S.geq rfl rfl (fun hlt => ?_) (fun hlt => by exfalso; omega) | refine S.geq rfl rfl (fun hlt => by exfalso; omega) (fun hlt => ?_) | refine S.geq rfl rfl (fun hlt => ?_) (fun hlt => ?_)) | (first | refine S.eqInt rfl rfl (fun hlt => ?_) (fun hlt => by exfalso; omega) | refine S.eqInt rfl rfl (fun hlt => by exfalso; omega) (fun hlt => ?_) | refine S.eqInt rfl rfl (fun hlt => ?_) (fun hlt => ?_))) | (refine S.op0 rfl ?_; first | refine S.storeS rfl rfl rfl (by rfl) rfl (by first | decide | exact Nat.le_refl _ | exact Nat.le_of_ble_eq_true rfl) ?_ | refine S.store rfl rfl (by (repeat' (first | assumption | exact AHeap.set_same _ _ _ | refine AHeap.get_fresh (by assumption) ?_ | refine AHeap.so ?_ ?_ | exact AHeap.n1 (by assumption) | exact AHeap.n2 (by assumption) | exact AHeap.ne_of (by assumption) (by assumption) | exact AHeap.n4 (by assumption) (by assumption) | exact AHeap.n5 (by assumption) | exact AHeap.n6 (by assumption) | exact AHeap.n7 (by assumption) (by assumption) | exact AHeap.n8 (by assumption) (by assumption))); first | done | fail) rfl rfl rfl (by rfl) rfl ?_) | refine S.skip rfl ?_ | refine S.skip0 rfl ?_ | refine S.seq ?_ | refine S.region ?_ | refine S.regionT ?_ | refine S.tstep ?_ | refine S.talt ?_ ?_ | exact S.tstop | refine S.tdone ?_ | refine S.condT rfl ?_ | refine S.condF rfl ?_ | refine RRun.skip ?_ | refine RRun.block ?_ | refine RRun.inBlock ?_ | refine RRun.exit rfl ?_)
    rw [List.take_of_length_le (by omega)]
    exact S.keep [3] rfl hk
  | succ m ih =>
    intro j hj hk
    have hlt : j < ts.length := by omega
    obtain ⟨⟨kind, s, n, pos⟩, ht⟩ : ∃ t, ts[j]? = some t := ⟨ts[j], List.getElem?_eq_getElem hlt⟩
    have hga : (ts.map Tok.cells)[((j : Nat) : Int).toNat]? = some [i64 kind, str s, i64 n, i64 pos] := by simp only [Int.toNat_natCast, List.getElem?_map, ht]; rfl
    have hmem := hp.2 _ (List.mem_of_getElem? ht)
    have ih' := ih (j + 1) (by omega) hk
    rw [putT_take ht] at ih'
    have hpl := putT_len hp j (by omega)
    have htl := tokText_len hmem.2
    have hs1 := hmem.1
    simp only at hs1 htl
    have hpb : (putT (ts.take j)).length ≤ 3000000000 := by omega
    have hcall := putToken_spec ⟨kind, s, n, pos⟩ hmem.1 hmem.2
    generalize tokText ⟨kind, s, n, pos⟩ = tx at ih' htl hcall
    generalize putT (ts.take j) = acc at ih' hpb ⊢
    clear hpl
    refine RRun.inLoop ?_
    unfold toksA
    by_cases hj0 : j = 0
    · subst hj0
      repeat' (first | refine S.nilK ?_ | (refine S.op rfl ?_; first | refine R.indexAddr (cc := .ro) (es := ts.map Tok.cells) rfl rfl (by omega) hga ?_ | refine callS rfl rfl (hcall _) ?_ | refine S.concat rfl rfl (by omega) ?_ | refine R.mv rfl ?_ | refine R.fieldAddr rfl ?_ | refine R.fieldAddrR rfl ?_ | refine R.nilCheck rfl ?_ | refine R.nilCheckR rfl ?_ | refine R.loadR rfl rfl ?_ | refine R.load (by decide) rfl (by (repeat' (first | assumption | exact AHeap.set_same _ _ _ | refine AHeap.get_fresh (by assumption) ?_ | refine AHeap.so ?_ ?_ | exact AHeap.n1 (by assumption) | exact AHeap.n2 (by assumption) | exact AHeap.ne_of (by assumption) (by assumption) | exact AHeap.n4 (by assumption) (by assumption) | exact AHeap.n5 (by assumption) | exact AHeap.n6 (by assumption) | exact AHeap.n7 (by assumption) (by assumption) | exact AHeap.n8 (by assumption) (by assumption))); first | done | fail) rfl ?_ | refine S.addI rfl rfl (by omega) ?_ | refine S.subI rfl rfl (by omega) ?_ | refine S.addU rfl rfl ?_ | refine S.subU rfl rfl ?_ | refine S.addUc rfl (by decide) ?_ | refine S.subUc rfl (by decide) ?_ | refine S.arith rfl rfl rfl ?_ | refine R.pickT rfl rfl ?_ | refine R.pickF rfl rfl ?_ | refine R.len rfl ?_ | refine R.lenA rfl ?_ | refine R.lenStr rfl ?_ | refine S.convIU rfl (by omega) ?_ | refine S.convUI rfl (by omega) ?_ | refine R.convInt rfl ?_ | refine R.not rfl ?_ | refine R.eqPtrNil rfl rfl ?_ | refine R.extract rfl rfl ?_ | refine R.field rfl rfl ?_ | refine R.alloc rfl (fun b hb => ?_) | refine R.box rfl rfl rfl (fun b hb => ?_) | refine R.build rfl rfl ?_ | refine R.buildSl rfl rfl rfl (by decide) ?_ | refine R.toStr rfl ?_ | refine R.convStr rfl ?_ | refine R.minmax rfl ?_ | refine R.makeFunc rfl rfl ?_ | (first | refine S.lss rfl rfl (fun hlt => ?_) (fun hlt => by exfalso; omega) | refine S.lss rfl rfl (fun hlt => by exfalso; omega) (fun hlt => ?_) | refine S.lss rfl rfl (fun hlt => ?_) (fun hlt => ?_)) | (first | refine S.gtr rfl rfl (fun hlt => ?_) (fun hlt => by exfalso; omega) | refine S.gtr rfl rfl (fun hlt => by exfalso; omega) (fun hlt => ?_) | refine S.gtr rfl rfl (fun hlt => ?_) (fun hlt => ?_)) | (first | refine S.leq rfl rfl (fun hlt => ?_) (fun hlt => by exfalso; omega) | refine S.leq rfl rfl (fun hlt => by exfalso; omega) (fun hlt => ?_) | refine S.leq rfl rfl (fun hlt => ?_) (fun hlt => ?_)) | (first | refine S.geq rfl rfl (fun hlt => ?_) (fun hlt => by exfalso; omega) | refine S.geq rfl rfl (fun hlt => by exfalso; omega) (fun hlt => ?_) | refine S.geq rfl rfl (fun hlt => ?_) (fun hlt => ?_)) | (first | refine S.eqInt rfl rfl (fun hlt => ?_) (fun hlt => by exfalso; omega) | refine S.eqInt rfl rfl (fun hlt => by exfalso; omega) (fun hlt => ?_) | refine S.eqInt rfl rfl (fun hlt => ?_) (fun hlt => ?_))) | (refine S.op0 rfl ?_; first | refine S.storeS rfl rfl rfl (by rfl) rfl (by first | decide | exact Nat.le_refl _ | exact Nat.le_of_ble_eq_true rfl) ?_ | refine S.store rfl rfl (by (repeat' (first | assumption | exact AHeap.set_same _ _ _ | refine AHeap.get_fresh (by assumption) ?_ | refine AHeap.so ?_ ?_ | exact AHeap.n1 (by assumption) | exact AHeap.n2 (by assumption) | exact AHeap.ne_of (by assumption) (by assumption) | exact AHeap.n4 (by assumption) (by assumption) | exact AHeap.n5 (by assumption) | exact AHeap.n6 (by assumption) | exact AHeap.n7 (by assumption) (by assumption) | exact AHeap.n8 (by assumption) (by assumption))); first | done | fail) rfl rfl rfl (by rfl) rfl ?_) | refine S.skip rfl ?_ | refine S.skip0 rfl ?_ | refine S.seq ?_ | refine S.region ?_ | refine S.regionT ?_ | refine S.tstep ?_ | refine S.talt ?_ ?_ | exact S.tstop | refine S.tdone ?_ | refine S.condT rfl ?_ | refine S.condF rfl ?_ | refine RRun.skip ?_ | refine RRun.block ?_ | refine RRun.inBlock ?_ | refine RRun.exit rfl ?_)
      refine RRun.sub (h' := h) (by repeat (first | exact AHeap.le.refl _ | refine AHeap.le.set ?_ _ (by (repeat' (first | assumption | exact AHeap.z1 (by assumption) | exact AHeap.z2 (by assumption) | exact AHeap.z3 (by assumption) | refine AHeap.so ?_ ?_ | exact AHeap.n1 (by assumption) | exact AHeap.n2 (by assumption) | exact AHeap.ne_of (by assumption) (by assumption) | exact AHeap.n4 (by assumption) (by assumption) | exact AHeap.n5 (by assumption) | exact AHeap.n6 (by assumption) | exact AHeap.n7 (by assumption) (by assumption) | exact AHeap.n8 (by assumption) (by assumption))); first | done | fail) | refine AHeap.le.both ?_ _ _)) ?_
      rw [if_neg (by omega), List.append_nil] at ih'
      exact S.keep [8, 7, 6, 3] rfl ih'
    · have hjp : 0 < j := by omega
      rw [if_pos hjp] at ih'
      repeat' (first | refine S.nilK ?_ | (refine S.op rfl ?_; first | refine R.indexAddr (cc := .ro) (es := ts.map Tok.cells) rfl rfl (by omega) hga ?_ | refine callS rfl rfl (hcall _) ?_ | refine S.concat (b := tx) rfl rfl (by simp only [List.length_cons, List.length_nil, List.length_append]; omega) ?_ | refine S.concat (b := [32]) rfl rfl (by simp only [List.length_cons, List.length_nil, List.length_append]; omega) ?_ | refine R.mv rfl ?_ | refine R.fieldAddr rfl ?_ | refine R.fieldAddrR rfl ?_ | refine R.nilCheck rfl ?_ | refine R.nilCheckR rfl ?_ | refine R.loadR rfl rfl ?_ | refine R.load (by decide) rfl (by (repeat' (first | assumption | exact AHeap.set_same _ _ _ | refine AHeap.get_fresh (by assumption) ?_ | refine AHeap.so ?_ ?_ | exact AHeap.n1 (by assumption) | exact AHeap.n2 (by assumption) | exact AHeap.ne_of (by assumption) (by assumption) | exact AHeap.n4 (by assumption) (by assumption) | exact AHeap.n5 (by assumption) | exact AHeap.n6 (by assumption) | exact AHeap.n7 (by assumption) (by assumption) | exact AHeap.n8 (by assumption) (by assumption))); first | done | fail) rfl ?_ | refine S.addI rfl rfl (by omega) ?_ | refine S.subI rfl rfl (by omega) ?_ | refine S.addU rfl rfl ?_ | refine S.subU rfl rfl ?_ | refine S.addUc rfl (by decide) ?_ | refine S.subUc rfl (by decide) ?_ | refine S.arith rfl rfl rfl ?_ | refine R.pickT rfl rfl ?_ | refine R.pickF rfl rfl ?_ | refine R.len rfl ?_ | refine R.lenA rfl ?_ | refine R.lenStr rfl ?_ | refine S.convIU rfl (by omega) ?_ | refine S.convUI rfl (by omega) ?_ | refine R.convInt rfl ?_ | refine R.not rfl ?_ | refine R.eqPtrNil rfl rfl ?_ | refine R.extract rfl rfl ?_ | refine R.field rfl rfl ?_ | refine R.alloc rfl (fun b hb => ?_) | refine R.box rfl rfl rfl (fun b hb => ?_) | refine R.build rfl rfl ?_ | refine R.buildSl rfl rfl rfl (by decide) ?_ | refine R.toStr rfl ?_ | refine R.convStr rfl ?_ | refine R.minmax rfl ?_ | refine R.makeFunc rfl rfl ?_ | (first | refine S.lss rfl rfl (fun hlt => ?_) (fun hlt => by exfalso; omega) | refine S.lss rfl rfl (fun hlt => by exfalso; omega) (fun hlt => ?_) | refine S.lss rfl rfl (fun hlt => ?_) (fun hlt => ?_)) | (first | refine S.gtr rfl rfl (fun hlt => ?_) (fun hlt => by exfalso; omega) | refine S.gtr rfl rfl (fun hlt => by exfalso; omega) (fun hlt => ?_) | refine S.gtr rfl rfl (fun hlt => ?_) (fun hlt => ?_)) | (first | refine S.leq rfl rfl (fun hlt => ?_) (fun hlt => by exfalso; omega) | refine S.leq rfl rfl (fun hlt => by exfalso; omega) (fun hlt => ?_) | refine S.leq rfl rfl (fun hlt => ?_) (fun hlt => ?_)) | (first | refine S.geq rfl rfl (fun hlt => ?_) (fun hlt => by exfalso; omega) | refine S.geq rfl rfl (fun hlt => by exfalso; omega) (fun hlt => ?_) | refine S.geq rfl rfl (fun hlt => ?_) (fun hlt => ?_)) | (first | refine S.eqInt rfl rfl (fun hlt => ?_) (fun hlt => by exfalso; omega) | refine S.eqInt rfl rfl (fun hlt => by exfalso; omega) (fun hlt => ?_) | refine S.eqInt rfl rfl (fun hlt => ?_) (fun hlt => ?_))) | (refine S.op0 rfl ?_; first | refine S.storeS rfl rfl rfl (by rfl) rfl (by first | decide | exact Nat.le_refl _ | exact Nat.le_of_ble_eq_true rfl) ?_ | refine S.store rfl rfl (by (repeat' (first | assumption | exact AHeap.set_same _ _ _ | refine AHeap.get_fresh (by assumption) ?_ | refine AHeap.so ?_ ?_ | exact AHeap.n1 (by assumption) | exact AHeap.n2 (by assumption) | exact AHeap.ne_of (by assumption) (by assumption) | exact AHeap.n4 (by assumption) (by assumption) | exact AHeap.n5 (by assumption) | exact AHeap.n6 (by assumption) | exact AHeap.n7 (by assumption) (by assumption) | exact AHeap.n8 (by assumption) (by assumption))); first | done | fail) rfl rfl rfl (by rfl) rfl ?_) | refine S.skip rfl ?_ | refine S.skip0 rfl ?_ | refine S.seq ?_ | refine S.region ?_ | refine S.regionT ?_ | refine S.tstep ?_ | refine S.talt ?_ ?_ | exact S.tstop | refine S.tdone ?_ | refine S.condT rfl ?_ | refine S.condF rfl ?_ | refine RRun.skip ?_ | refine RRun.block ?_ | refine RRun.inBlock ?_ | refine RRun.exit rfl ?_)
      refine RRun.sub (h' := h) (by repeat (first | exact AHeap.le.refl _ | refine AHeap.le.set ?_ _ (by (repeat' (first | assumption | exact AHeap.z1 (by assumption) | exact AHeap.z2 (by assumption) | exact AHeap.z3 (by assumption) | refine AHeap.so ?_ ?_ | exact AHeap.n1 (by assumption) | exact AHeap.n2 (by assumption) | exact AHeap.ne_of (by assumption) (by assumption) | exact AHeap.n4 (by assumption) (by assumption) | exact AHeap.n5 (by assumption) | exact AHeap.n6 (by assumption) | exact AHeap.n7 (by assumption) (by assumption) | exact AHeap.n8 (by assumption) (by assumption))); first | done | fail) | refine AHeap.le.both ?_ _ _)) ?_
      rw [show ((j : Int) + 1) = ((j + 1 : Nat) : Int) by omega]
      exact S.keep [8, 7, 6, 3] rfl ih'

theorem put12_spec (ts : List Tok) (hp : Puts ts) (h : AHeap) : ACalls Try.prog 12 [toksA ts .ro] h (fun x h' => x = str (putT ts) ∧ h' = h) := by
  obtain ⟨c, hc1, hc2⟩ := res12
  refine ACalls.enter Try.func12 hc1 Try.ntmps12 hc2 (Nat.le_of_ble_eq_true rfl) rfl ?_
  have hl1 := hp.1
  have hla : (ts.map Tok.cells).length = ts.length := by simp
  unfold toksA
  repeat' (first | refine S.nilK ?_ | (refine S.op rfl ?_; first | refine R.mv rfl ?_ | refine R.fieldAddr rfl ?_ | refine R.fieldAddrR rfl ?_ | refine R.nilCheck rfl ?_ | refine R.nilCheckR rfl ?_ | refine R.loadR rfl rfl ?_ | refine R.load (by decide) rfl (by (repeat' (first | assumption | exact AHeap.set_same _ _ _ | refine AHeap.get_fresh (by assumption) ?_ | refine AHeap.so ?_ ?_ | exact AHeap.n1 (by assumption) | exact AHeap.n2 (by assumption) | exact AHeap.ne_of (by assumption) (by assumption) | exact AHeap.n4 (by assumption) (by assumption) | exact AHeap.n5 (by assumption) | exact AHeap.n6 (by assumption) | exact AHeap.n7 (by assumption) (by assumption) | exact AHeap.n8 (by assumption) (by assumption))); first | done | fail) rfl ?_ | refine S.addI rfl rfl (by omega) ?_ | refine S.subI rfl rfl (by omega) ?_ | refine S.addU rfl rfl ?_ | refine S.subU rfl rfl ?_ | refine S.addUc rfl (by decide) ?_ | refine S.subUc rfl (by decide) ?_ | refine S.arith rfl rfl rfl ?_ | refine R.pickT rfl rfl ?_ | refine R.pickF rfl rfl ?_ | refine R.len rfl ?_ | refine R.lenA rfl ?_ | refine R.lenStr rfl ?_ | refine S.convIU rfl (by omega) ?_ | refine S.convUI rfl (by omega) ?_ | refine R.convInt rfl ?_ | refine R.not rfl ?_ | refine R.eqPtrNil rfl rfl ?_ | refine R.extract rfl rfl ?_ | refine R.field rfl rfl ?_ | refine R.alloc rfl (fun b hb => ?_) | refine R.box rfl rfl rfl (fun b hb => ?_) | refine R.build rfl rfl ?_ | refine R.buildSl rfl rfl rfl (by decide) ?_ | refine R.toStr rfl ?_ | refine R.convStr rfl ?_ | refine R.minmax rfl ?_ | refine R.makeFunc rfl rfl ?_ | (first | refine S.lss rfl rfl (fun hlt => ?_) (fun hlt => by exfalso; omega) | refine S.lss rfl rfl (fun hlt => by exfalso; omega) (fun hlt => ?_) | refine S.lss rfl rfl (fun hlt => ?_) (fun hlt => ?_)) | (first | refine S.gtr rfl rfl (fun hlt => ?_) (fun hlt => by exfalso; omega) | refine S.gtr rfl rfl (fun hlt => by exfalso; omega) (fun hlt => ?_) | refine S.gtr rfl rfl (fun hlt => ?_) (fun hlt => ?_)) | (first | refine S.leq rfl rfl (fun hlt => ?_) (fun hlt => by exfalso; omega) | refine S.leq rfl rfl (fun hlt => by exfalso; omega) (fun hlt => ?_) | refine S.leq rfl rfl (fun hlt => ?_) (fun hlt => ?_)) | (first | refine S.geq rfl rfl (fun hlt => ?_) (fun hlt => by exfalso; omega) | refine S.geq rfl rfl (fun hlt => by exfalso; omega) (fun hlt => ?_) | refine S.geq rfl rfl (fun hlt => ?_) (fun hlt => ?_)) | (first | refine S.eqInt rfl rfl (fun hlt => ?_) (fun hlt => by exfalso; omega) | refine S.eqInt rfl rfl (fun hlt => by exfalso; omega) (fun hlt => ?_) | refine S.eqInt rfl rfl (fun hlt => ?_) (fun hlt => ?_))) | (refine S.op0 rfl ?_; first | refine S.storeS rfl rfl rfl (by rfl) rfl (by first | decide | exact Nat.le_refl _ | exact Nat.le_of_ble_eq_true rfl) ?_ | refine S.store rfl rfl (by (repeat' (first | assumption | exact AHeap.set_same _ _ _ | refine AHeap.get_fresh (by assumption) ?_ | refine AHeap.so ?_ ?_ | exact AHeap.n1 (by assumption) | exact AHeap.n2 (by assumption) | exact AHeap.ne_of (by assumption) (by assumption) | exact AHeap.n4 (by assumption) (by assumption) | exact AHeap.n5 (by assumption) | exact AHeap.n6 (by assumption) | exact AHeap.n7 (by assumption) (by assumption) | exact AHeap.n8 (by assumption) (by assumption))); first | done | fail) rfl rfl rfl (by rfl) rfl ?_) | refine S.skip rfl ?_ | refine S.skip0 rfl ?_ | refine S.seq ?_ | refine S.region ?_ | refine S.regionT ?_ | refine S.tstep ?_ | refine S.talt ?_ ?_ | exact S.tstop | refine S.tdone ?_ | refine S.condT rfl ?_ | refine S.condF rfl ?_ | refine RRun.skip ?_ | refine RRun.block ?_ | refine RRun.inBlock ?_ | refine RRun.exit rfl ?_)
  rw [hla]
  refine RRun.loopIn (S.keep [8, 7, 6, 3] rfl (put12_loop ts hp h _ _ ts.length 0 (by omega) ?_))
  repeat' (first | refine S.nilK ?_ | (refine S.op rfl ?_; first | refine R.mv rfl ?_ | refine R.fieldAddr rfl ?_ | refine R.fieldAddrR rfl ?_ | refine R.nilCheck rfl ?_ | refine R.nilCheckR rfl ?_ | refine R.loadR rfl rfl ?_ | refine R.load (by decide) rfl (by (repeat' (first | assumption | exact AHeap.set_same _ _ _ | refine AHeap.get_fresh (by assumption) ?_ | refine AHeap.so ?_ ?_ | exact AHeap.n1 (by assumption) | exact AHeap.n2 (by assumption) | exact AHeap.ne_of (by assumption) (by assumption) | exact AHeap.n4 (by assumption) (by assumption) | exact AHeap.n5 (by assumption) | exact AHeap.n6 (by assumption) | exact AHeap.n7 (by assumption) (by assumption) | exact AHeap.n8 (by assumption) (by assumption))); first | done | fail) rfl ?_ | refine S.addI rfl rfl (by omega) ?_ | refine S.subI rfl rfl (by omega) ?_ | refine S.addU rfl rfl ?_ | refine S.subU rfl rfl ?_ | refine S.addUc rfl (by decide) ?_ | refine S.subUc rfl (by decide) ?_ | refine S.arith rfl rfl rfl ?_ | refine R.pickT rfl rfl ?_ | refine R.pickF rfl rfl ?_ | refine R.len rfl ?_ | refine R.lenA rfl ?_ | refine R.lenStr rfl ?_ | refine S.convIU rfl (by omega) ?_ | refine S.convUI rfl (by omega) ?_ | refine R.convInt rfl ?_ | refine R.not rfl ?_ | refine R.eqPtrNil rfl rfl ?_ | refine R.extract rfl rfl ?_ | refine R.field rfl rfl ?_ | refine R.alloc rfl (fun b hb => ?_) | refine R.box rfl rfl rfl (fun b hb => ?_) | refine R.build rfl rfl ?_ | refine R.buildSl rfl rfl rfl (by decide) ?_ | refine R.toStr rfl ?_ | refine R.convStr rfl ?_ | refine R.minmax rfl ?_ | refine R.makeFunc rfl rfl ?_ | (first | refine S.lss rfl rfl (fun hlt => ?_) (fun hlt => by exfalso; omega) | refine S.lss rfl rfl (fun hlt => by exfalso; omega) (fun hlt => ?_) | refine S.lss rfl rfl (fun hlt => ?_) (fun hlt => ?_)) | (first | refine S.gtr rfl rfl (fun hlt => ?_) (fun hlt => by exfalso; omega) | refine S.gtr rfl rfl (fun hlt => by exfalso; omega) (fun hlt => ?_) | refine S.gtr rfl rfl (fun hlt => ?_) (fun hlt => ?_)) | (first | refine S.leq rfl rfl (fun hlt => ?_) (fun hlt => by exfalso; omega) | refine S.leq rfl rfl (fun hlt => by exfalso; omega) (fun hlt => ?_) | refine S.leq rfl rfl (fun hlt => ?_) (fun hlt => ?_)) | (first | refine S.geq rfl rfl (fun hlt => ?_) (fun hlt => by exfalso; omega) | refine S.geq rfl rfl (fun hlt => by exfalso; omega) (fun hlt => ?_) | refine S.geq rfl rfl (fun hlt => ?_) (fun hlt => ?_)) | (first | refine S.eqInt rfl rfl (fun hlt => ?_) (fun hlt => by exfalso; omega) | refine S.eqInt rfl rfl (fun hlt => by exfalso; omega) (fun hlt => ?_) | refine S.eqInt rfl rfl (fun hlt => ?_) (fun hlt => ?_))) | (refine S.op0 rfl ?_; first | refine S.storeS rfl rfl rfl (by rfl) rfl (by first | decide | exact Nat.le_refl _ | exact Nat.le_of_ble_eq_true rfl) ?_ | refine S.store rfl rfl (by (repeat' (first | assumption | exact AHeap.set_same _ _ _ | refine AHeap.get_fresh (by assumption) ?_ | refine AHeap.so ?_ ?_ | exact AHeap.n1 (by assumption) | exact AHeap.n2 (by assumption) | exact AHeap.ne_of (by assumption) (by assumption) | exact AHeap.n4 (by assumption) (by assumption) | exact AHeap.n5 (by assumption) | exact AHeap.n6 (by assumption) | exact AHeap.n7 (by assumption) (by assumption) | exact AHeap.n8 (by assumption) (by assumption))); first | done | fail) rfl rfl rfl (by rfl) rfl ?_) | refine S.skip rfl ?_ | refine S.skip0 rfl ?_ | refine S.seq ?_ | refine S.region ?_ | refine S.regionT ?_ | refine S.tstep ?_ | refine S.talt ?_ ?_ | exact S.tstop | refine S.tdone ?_ | refine S.condT rfl ?_ | refine S.condF rfl ?_ | refine RRun.skip ?_ | refine RRun.block ?_ | refine RRun.inBlock ?_ | refine RRun.exit rfl ?_)
  apply S.ret rr12
  case hx => repeat (first | exact ResAt.nil | apply ResAt.tmp rfl | apply ResAt.cellA rfl (by (repeat' (first | assumption | exact AHeap.set_same _ _ _ | refine AHeap.get_fresh (by assumption) ?_ | refine AHeap.so ?_ ?_ | exact AHeap.n1 (by assumption) | exact AHeap.n2 (by assumption) | exact AHeap.ne_of (by assumption) (by assumption) | exact AHeap.n4 (by assumption) (by assumption) | exact AHeap.n5 (by assumption) | exact AHeap.n6 (by assumption) | exact AHeap.n7 (by assumption) (by assumption) | exact AHeap.n8 (by assumption) (by assumption))); first | done | fail) (by rfl) | apply ResAt.cell1 rfl (by (repeat' (first | assumption | exact AHeap.set_same _ _ _ | refine AHeap.get_fresh (by assumption) ?_ | refine AHeap.so ?_ ?_ | exact AHeap.n1 (by assumption) | exact AHeap.n2 (by assumption) | exact AHeap.ne_of (by assumption) (by assumption) | exact AHeap.n4 (by assumption) (by assumption) | exact AHeap.n5 (by assumption) | exact AHeap.n6 (by assumption) | exact AHeap.n7 (by assumption) (by assumption) | exact AHeap.n8 (by assumption) (by assumption))); first | done | fail) (by rfl))
  exact ⟨rfl, rfl⟩

/-! ### The program's Put -/

theorem S.appBytes {P : Program} {c : Cls} {E : AEnv} {h₀ h : AHeap} {K : AV → AHeap → Prop} {zero : List Value} {x y : Operand} {s : AV} {acc ys : List UInt8} {c0 : Cap} (hc : c = .act) (hg : Grow h₀ h c0) (hx : aev E x = some (.sl 1 (Go.Av.byteCells acc) c0)) (hy : aev E y = some s) (hs : Go.Av.Src 1 s (Go.Av.byteCells ys)) (hlen : acc.length + ys.length ≤ 4000000000000)
    (hk : ∀ c' h', Grow h₀ h' c' → (∀ x cs, h x = some (.box cs) → h' x = some (.box cs)) → K (.sl 1 (Go.Av.byteCells (acc ++ ys)) c') h') : ROpS P c (.append 1 1 zero x y) E h K := by
  refine S.appendG hc hg hx (.sl _ _) hy hs ?_ ?_ ?_ (fun c' h' g1 g2 => ?_)
  · intro e he a ha
    simp only [Go.Av.byteCells, List.mem_map] at he
    obtain ⟨u, _, rfl⟩ := he
    simp only [byteCell, List.mem_singleton] at ha
    subst ha; rfl
  · simp only [Go.Av.byteCells, List.length_map]; omega
  · simp only [Go.Av.byteCells, List.length_map]; omega
  · have := hk c' h' g1 g2
    simpa [Go.Av.byteCells] using this

theorem srcStr (s : List UInt8) : Go.Av.Src 1 (str s) (Go.Av.byteCells s) := by
  have := Go.Av.Src.str (sz := 1) ⟨s.toArray⟩ rfl
  simpa using this

def r11l1 : RCode :=
  (.seq (.region [
    ⟨(some 43), none, .act, .bin .lss (.tmp 42) (.tmp 41)⟩])
  (.seq (.cond (.tmp 43)
   .skip
   (.exit 3))
  (.seq (.block 4
   (.seq (.region [
     ⟨(some 44), none, .act, .indexAddr 1 (.tmp 40) (.tmp 42)⟩,
     ⟨(some 45), none, .act, .load false 1 (.tmp 44)⟩,
     ⟨(some 7), none, .act, .mv (.tmp 45)⟩])
   (.seq (.region [
     ⟨(some 46), none, .act, .mv (.tmp 3)⟩,
     ⟨(some 47), none, .act, .mv (.tmp 7)⟩,
     ⟨(some 48), none, .act, .buildSl 1 [(.int .u8 0)] 1 [(0, (.tmp 47))]⟩,
     ⟨(some 49), none, .act, .append 1 1 [(.int .u8 0)] (.tmp 46) (.tmp 48)⟩,
     ⟨(some 3), none, .act, .mv (.tmp 49)⟩])
   (.seq (.region [
     ⟨(some 50), none, .act, .mv (.tmp 7)⟩,
     ⟨(some 51), none, .act, .eq false .int (.tmp 50) (.const (.int .u8 39))⟩])
   (.cond (.tmp 51)
    (.region [
      ⟨(some 52), none, .act, .mv (.tmp 3)⟩,
      ⟨(some 53), none, .act, .mv (.tmp 7)⟩,
      ⟨(some 54), none, .act, .buildSl 1 [(.int .u8 0)] 1 [(0, (.tmp 53))]⟩,
      ⟨(some 55), none, .act, .append 1 1 [(.int .u8 0)] (.tmp 52) (.tmp 54)⟩,
      ⟨(some 3), none, .act, .mv (.tmp 55)⟩])
    .skip)))))
  (.region [
    ⟨(some 56), none, .act, .bin .add (.tmp 42) (.const (.int .i64 1))⟩,
    ⟨(some 42), none, .act, .mv (.tmp 56)⟩]))))
def r11l0 : RCode :=
  (.seq (.region [
    ⟨(some 11), none, .act, .bin .lss (.tmp 10) (.tmp 9)⟩])
  (.seq (.cond (.tmp 11)
   .skip
   (.exit 0))
  (.seq (.block 1
   (.seq (.region [
     ⟨(some 12), none, .act, .mv (.tmp 10)⟩,
     ⟨(some 13), none, .act, .indexAddr 4 (.tmp 8) (.tmp 10)⟩,
     ⟨(some 14), none, .act, .load true 4 (.tmp 13)⟩,
     ⟨(some 5), none, .act, .alloc [(.int .i64 0), (.string ⟨#[]⟩), (.int .i64 0), (.int .i64 0)]⟩,
     ⟨(some 4), none, .act, .mv (.tmp 12)⟩,
     ⟨none, none, .act, .store 4 (.tmp 5) (.tmp 14)⟩])
   (.seq (.seq (.region [
     ⟨(some 15), none, .act, .mv (.tmp 4)⟩,
     ⟨(some 16), none, .act, .bin .gtr (.tmp 15) (.const (.int .i64 0))⟩])
   (.cond (.tmp 16)
    (.region [
      ⟨(some 17), none, .act, .mv (.tmp 3)⟩,
      ⟨(some 18), none, .act, .buildSl 1 [(.int .u8 0)] 1 [(0, (.const (.int .u8 32)))]⟩,
      ⟨(some 19), none, .act, .append 1 1 [(.int .u8 0)] (.tmp 17) (.tmp 18)⟩,
      ⟨(some 3), none, .act, .mv (.tmp 19)⟩])
    .skip))
   (.seq (.region [
     ⟨(some 20), none, .act, .fieldAddr 0 (.tmp 5)⟩,
     ⟨(some 21), none, .act, .load false 1 (.tmp 20)⟩])
   (.block 2
    (.seq (.region [
      ⟨(some 27), none, .act, .eq false .int (.tmp 21) (.const (.int .i64 2))⟩,
      ⟨(some 26), none, .act, .mv (.tmp 27)⟩])
    (.cond (.tmp 26)
     (.region [
       ⟨(some 28), none, .act, .mv (.tmp 3)⟩,
       ⟨(some 29), none, .act, .fieldAddr 2 (.tmp 5)⟩,
       ⟨(some 30), none, .act, .load false 1 (.tmp 29)⟩,
       ⟨(some 31), none, .act, .call 18 [(.tmp 30)]⟩,
       ⟨(some 32), none, .act, .append 1 1 [(.int .u8 0)] (.tmp 28) (.tmp 31)⟩,
       ⟨(some 3), none, .act, .mv (.tmp 32)⟩])
     (.seq (.region [
       ⟨(some 34), none, .act, .eq false .int (.tmp 21) (.const (.int .i64 3))⟩,
       ⟨(some 33), none, .act, .mv (.tmp 34)⟩])
     (.cond (.tmp 33)
      (.seq (.region [
        ⟨(some 35), none, .act, .mv (.tmp 3)⟩,
        ⟨(some 36), none, .act, .buildSl 1 [(.int .u8 0)] 1 [(0, (.const (.int .u8 39)))]⟩,
        ⟨(some 37), none, .act, .append 1 1 [(.int .u8 0)] (.tmp 35) (.tmp 36)⟩,
        ⟨(some 3), none, .act, .mv (.tmp 37)⟩])
      (.seq (.seq (.region [
        ⟨(some 38), none, .act, .fieldAddr 1 (.tmp 5)⟩,
        ⟨(some 39), none, .act, .load false 1 (.tmp 38)⟩,
        ⟨(some 40), none, .act, .toBytes (.tmp 39)⟩,
        ⟨(some 41), none, .act, .len (.tmp 40)⟩,
        ⟨(some 42), none, .act, .mv (.const (.int .i64 0))⟩])
      (.block 3
       (.loop r11l1)))
      (.region [
        ⟨(some 57), none, .act, .mv (.tmp 3)⟩,
        ⟨(some 58), none, .act, .buildSl 1 [(.int .u8 0)] 1 [(0, (.const (.int .u8 39)))]⟩,
        ⟨(some 59), none, .act, .append 1 1 [(.int .u8 0)] (.tmp 57) (.tmp 58)⟩,
        ⟨(some 3), none, .act, .mv (.tmp 59)⟩])))
      (.region [
        ⟨(some 22), none, .act, .mv (.tmp 3)⟩,
        ⟨(some 23), none, .act, .fieldAddr 1 (.tmp 5)⟩,
        ⟨(some 24), none, .act, .load false 1 (.tmp 23)⟩,
        ⟨(some 25), none, .act, .append 1 1 [(.int .u8 0)] (.tmp 22) (.tmp 24)⟩,
        ⟨(some 3), none, .act, .mv (.tmp 25)⟩]))))))))))
  (.region [
    ⟨(some 60), none, .act, .bin .add (.tmp 10) (.const (.int .i64 1))⟩,
    ⟨(some 10), none, .act, .mv (.tmp 60)⟩]))))
/-- plenum/lex.Put -/
def r11 : RCode :=
  (.seq (.region [
    ⟨(some 2), none, .act, .mv (.const (.string ⟨#[]⟩))⟩])
  (.seq (.region [
    ⟨(some 3), none, .act, .mv (.const (.slice none 0 0))⟩])
  (.seq (.seq (.region [
    ⟨(some 8), none, .act, .mv (.tmp 0)⟩,
    ⟨(some 9), none, .act, .len (.tmp 8)⟩,
    ⟨(some 10), none, .act, .mv (.const (.int .i64 0))⟩])
  (.block 0
   (.loop r11l0)))
  (.seq (.region [
    ⟨(some 61), none, .act, .mv (.tmp 3)⟩,
    ⟨(some 62), none, .act, .toStr (.tmp 61)⟩,
    ⟨(some 2), none, .act, .mv (.tmp 62)⟩])
  .ret))))
theorem res11 : ∃ c, Try.f11.body = some c ∧ resCode Try.prog 63 c = some r11 := ⟨_, rfl, by kernel_rfl⟩
theorem rr11 : resRes Try.prog Try.f11.results.toList = some [.tmp 2] := by kernel_rfl

theorem put11_quote (s : List UInt8) (hl : s.length ≤ 1000000) (acc : List UInt8) (hacc : acc.length ≤ 3000000000) (h₀ : AHeap) (k : List RT) (Q : AV → AHeap → Prop) (x8 x9 x10 : AV)
    (hk : ∀ c h, Grow h₀ h c → RRun Try.prog Try.f11 63 k (Env.get [(3, .sl 1 (Go.Av.byteCells (acc ++ dbl s)) c), (8, x8), (9, x9), (10, x10)]) h Q) : ∀ (m i : Nat) (c : Cap) (h : AHeap), i + m = s.length → Grow h₀ h c →
    RRun Try.prog Try.f11 63 (.inLoop r11l1 :: .inBlock 3 :: k) (Env.get [(3, .sl 1 (Go.Av.byteCells (acc ++ dbl (s.take i))) c), (40, .sl 1 (Go.Av.byteCells s) .ro), (41, i64 s.length), (42, i64 i), (8, x8), (9, x9), (10, x10)]) h Q := by
  have hla : (Go.Av.byteCells s).length = s.length := by simp [Go.Av.byteCells]
  intro m
  induction m with
  | zero =>
    intro i c h hi hg
    refine RRun.inLoop ?_
    repeat' (first | refine S.nilK ?_ | (refine S.op rfl ?_; first | refine R.mv rfl ?_ | refine R.fieldAddr rfl ?_ | refine R.fieldAddrR rfl ?_ | refine R.nilCheck rfl ?_ | refine R.nilCheckR rfl ?_ | refine R.loadR rfl rfl ?_ | refine R.load (by decide) rfl (by (repeat' (first | assumption | exact AHeap.set_same _ _ _ | refine AHeap.get_fresh (by assumption) ?_ | refine AHeap.so ?_ ?_ | exact AHeap.n1 (by assumption) | exact AHeap.n2 (by assumption) | exact AHeap.ne_of (by assumption) (by assumption) | exact AHeap.n4 (by assumption) (by assumption) | exact AHeap.n5 (by assumption) | exact AHeap.n6 (by assumption) | exact AHeap.n7 (by assumption) (by assumption) | exact AHeap.n8 (by assumption) (by assumption))); first | done | fail) rfl ?_ | refine S.addI rfl rfl (by omega) ?_ | refine S.subI rfl rfl (by omega) ?_ | refine S.addU rfl rfl ?_ | refine S.subU rfl rfl ?_ | refine S.addUc rfl (by decide) ?_ | refine S.subUc rfl (by decide) ?_ | refine S.arith rfl rfl rfl ?_ | refine R.pickT rfl rfl ?_ | refine R.pickF rfl rfl ?_ | refine R.len rfl ?_ | refine R.lenA rfl ?_ | refine R.lenStr rfl ?_ | refine S.convIU rfl (by omega) ?_ | refine S.convUI rfl (by omega) ?_ | refine R.convInt rfl ?_ | refine R.not rfl ?_ | refine R.eqPtrNil rfl rfl ?_ | refine R.extract rfl rfl ?_ | refine R.field rfl rfl ?_ | refine R.alloc rfl (fun b hb => ?_) | refine R.box rfl rfl rfl (fun b hb => ?_) | refine R.build rfl rfl ?_ | refine R.buildSl rfl rfl rfl (by decide) ?_ | refine R.toStr rfl ?_ | refine R.convStr rfl ?_ | refine R.minmax rfl ?_ | refine R.makeFunc rfl rfl ?_ | (first | refine S.lss rfl rfl (fun hlt => ?_) (fun hlt => by exfalso; omega) | refine S.lss rfl rfl (fun hlt => by exfalso; omega) (fun hlt => ?_) | refine S.lss rfl rfl (fun hlt => ?_) (fun hlt => ?_)) | (first | refine S.gtr rfl rfl (fun hlt => ?_) (fun hlt => by exfalso; omega) | refine S.gtr rfl rfl (fun hlt => by exfalso; omega) (fun hlt => ?_) | refine S.gtr rfl rfl (fun hlt => ?_) (fun hlt => ?_)) | (first | refine S.leq rfl rfl (fun hlt => ?_) (fun hlt => by exfalso; omega) | refine S.leq rfl rfl (fun hlt => by exfalso; omega) (fun hlt => ?_) | refine S.leq rfl rfl (fun hlt => ?_) (fun hlt => ?_)) | (first | refine S.geq rfl rfl (fun hlt => ?_) (fun hlt => by exfalso; omega) | refine S.geq rfl rfl (fun hlt => by exfalso; omega) (fun hlt => ?_) | refine S.geq rfl rfl (fun hlt => ?_) (fun hlt => ?_)) | (first | refine S.eqInt rfl rfl (fun hlt => ?_) (fun hlt => by exfalso; omega) | refine S.eqInt rfl rfl (fun hlt => by exfalso; omega) (fun hlt => ?_) | refine S.eqInt rfl rfl (fun hlt => ?_) (fun hlt => ?_))) | (refine S.op0 rfl ?_; first | refine S.storeS rfl rfl rfl (by rfl) rfl (by first | decide | exact Nat.le_refl _ | exact Nat.le_of_ble_eq_true rfl) ?_ | refine S.store rfl rfl (by (repeat' (first | assumption | exact AHeap.set_same _ _ _ | refine AHeap.get_fresh (by assumption) ?_ | refine AHeap.so ?_ ?_ | exact AHeap.n1 (by assumption) | exact AHeap.n2 (by assumption) | exact AHeap.ne_of (by assumption) (by assumption) | exact AHeap.n4 (by assumption) (by assumption) | exact AHeap.n5 (by assumption) | exact AHeap.n6 (by assumption) | exact AHeap.n7 (by assumption) (by assumption) | exact AHeap.n8 (by assumption) (by assumption))); first | done | fail) rfl rfl rfl (by rfl) rfl ?_) | refine S.skip rfl ?_ | refine S.skip0 rfl ?_ | refine S.seq ?_ | refine S.region ?_ | refine S.regionT ?_ | refine S.tstep ?_ | refine S.talt ?_ ?_ | exact S.tstop | refine S.tdone ?_ | refine S.condT rfl ?_ | refine S.condF rfl ?_ | refine RRun.skip ?_ | refine RRun.block ?_ | refine RRun.inBlock ?_ | refine RRun.exit rfl ?_)
    rw [List.take_of_length_le (by omega)]
    exact S.keep [3, 8, 9, 10] rfl (hk c h hg)
  | succ m ih =>
    intro i c h hi hg
    have hlt : i < s.length := by omega
    obtain ⟨q, hq⟩ : ∃ q, s[i]? = some q := ⟨s[i], List.getElem?_eq_getElem hlt⟩
    have hga : (Go.Av.byteCells s)[((i : Nat) : Int).toNat]? = some [u8 q] := by simp only [Int.toNat_natCast, Go.Av.byteCells, List.getElem?_map, hq]; rfl
    have hdl := dbl_len (s.take i)
    have htl : (s.take i).length = i := by simp; omega
    have htk : s.take (i + 1) = s.take i ++ [q] := by rw [List.take_add_one, hq]; rfl
    have ih' := fun c h => ih (i + 1) c h (by omega)
    rw [htk, dbl_app, ← List.append_assoc] at ih'
    have hal : (acc ++ dbl (s.take i)).length ≤ 3100000000 := by rw [List.length_append]; omega
    generalize acc ++ dbl (s.take i) = A at ih' hal ⊢
    by_cases hq2 : q = 39
    · have hq3 : q.toNat = 39 := by rw [hq2]; rfl
      have hd : dbl [q] = [q] ++ [q] := by rw [hq2]; rfl
      rw [hd, ← List.append_assoc] at ih'
      refine RRun.inLoop ?_
      repeat' (first | refine S.nilK ?_ | (refine S.op rfl ?_; first | refine R.indexAddr (cc := .ro) (es := Go.Av.byteCells s) rfl rfl (by omega) hga ?_ | refine R.mv rfl ?_ | refine R.fieldAddr rfl ?_ | refine R.fieldAddrR rfl ?_ | refine R.nilCheck rfl ?_ | refine R.nilCheckR rfl ?_ | refine R.loadR rfl rfl ?_ | refine R.load (by decide) rfl (by (repeat' (first | assumption | exact AHeap.set_same _ _ _ | refine AHeap.get_fresh (by assumption) ?_ | refine AHeap.so ?_ ?_ | exact AHeap.n1 (by assumption) | exact AHeap.n2 (by assumption) | exact AHeap.ne_of (by assumption) (by assumption) | exact AHeap.n4 (by assumption) (by assumption) | exact AHeap.n5 (by assumption) | exact AHeap.n6 (by assumption) | exact AHeap.n7 (by assumption) (by assumption) | exact AHeap.n8 (by assumption) (by assumption))); first | done | fail) rfl ?_ | refine S.addI rfl rfl (by omega) ?_ | refine S.subI rfl rfl (by omega) ?_ | refine S.addU rfl rfl ?_ | refine S.subU rfl rfl ?_ | refine S.addUc rfl (by decide) ?_ | refine S.subUc rfl (by decide) ?_ | refine S.arith rfl rfl rfl ?_ | refine R.pickT rfl rfl ?_ | refine R.pickF rfl rfl ?_ | refine R.len rfl ?_ | refine R.lenA rfl ?_ | refine R.lenStr rfl ?_ | refine S.convIU rfl (by omega) ?_ | refine S.convUI rfl (by omega) ?_ | refine R.convInt rfl ?_ | refine R.not rfl ?_ | refine R.eqPtrNil rfl rfl ?_ | refine R.extract rfl rfl ?_ | refine R.field rfl rfl ?_ | refine R.alloc rfl (fun b hb => ?_) | refine R.box rfl rfl rfl (fun b hb => ?_) | refine R.build rfl rfl ?_ | refine R.buildSl rfl rfl rfl (by decide) ?_ | refine R.toStr rfl ?_ | refine R.convStr rfl ?_ | refine R.minmax rfl ?_ | refine R.makeFunc rfl rfl ?_ | (first | refine S.lss rfl rfl (fun hlt => ?_) (fun hlt => by exfalso; omega) | refine S.lss rfl rfl (fun hlt => by exfalso; omega) (fun hlt => ?_) | refine S.lss rfl rfl (fun hlt => ?_) (fun hlt => ?_)) | (first | refine S.gtr rfl rfl (fun hlt => ?_) (fun hlt => by exfalso; omega) | refine S.gtr rfl rfl (fun hlt => by exfalso; omega) (fun hlt => ?_) | refine S.gtr rfl rfl (fun hlt => ?_) (fun hlt => ?_)) | (first | refine S.leq rfl rfl (fun hlt => ?_) (fun hlt => by exfalso; omega) | refine S.leq rfl rfl (fun hlt => by exfalso; omega) (fun hlt => ?_) | refine S.leq rfl rfl (fun hlt => ?_) (fun hlt => ?_)) | (first | refine S.geq rfl rfl (fun hlt => ?_) (fun hlt => by exfalso; omega) | refine S.geq rfl rfl (fun hlt => by exfalso; omega) (fun hlt => ?_) | refine S.geq rfl rfl (fun hlt => ?_) (fun hlt => ?_)) | (first | refine S.eqInt rfl rfl (fun hlt => ?_) (fun hlt => by exfalso; omega) | refine S.eqInt rfl rfl (fun hlt => by exfalso; omega) (fun hlt => ?_) | refine S.eqInt rfl rfl (fun hlt => ?_) (fun hlt => ?_))) | (refine S.op0 rfl ?_; first | refine S.storeS rfl rfl rfl (by rfl) rfl (by first | decide | exact Nat.le_refl _ | exact Nat.le_of_ble_eq_true rfl) ?_ | refine S.store rfl rfl (by (repeat' (first | assumption | exact AHeap.set_same _ _ _ | refine AHeap.get_fresh (by assumption) ?_ | refine AHeap.so ?_ ?_ | exact AHeap.n1 (by assumption) | exact AHeap.n2 (by assumption) | exact AHeap.ne_of (by assumption) (by assumption) | exact AHeap.n4 (by assumption) (by assumption) | exact AHeap.n5 (by assumption) | exact AHeap.n6 (by assumption) | exact AHeap.n7 (by assumption) (by assumption) | exact AHeap.n8 (by assumption) (by assumption))); first | done | fail) rfl rfl rfl (by rfl) rfl ?_) | refine S.skip rfl ?_ | refine S.skip0 rfl ?_ | refine S.seq ?_ | refine S.region ?_ | refine S.regionT ?_ | refine S.tstep ?_ | refine S.talt ?_ ?_ | exact S.tstop | refine S.tdone ?_ | refine S.condT rfl ?_ | refine S.condF rfl ?_ | refine RRun.skip ?_ | refine RRun.block ?_ | refine RRun.inBlock ?_ | refine RRun.exit rfl ?_)
      refine S.op rfl (S.appBytes (ys := [q]) rfl hg rfl rfl (.sl _ _) (by simp only [List.length_cons, List.length_nil]; omega) (fun c1 h1 g1 _ => ?_))
      repeat' (first | refine S.nilK ?_ | (refine S.op rfl ?_; first | refine R.mv rfl ?_ | refine R.fieldAddr rfl ?_ | refine R.fieldAddrR rfl ?_ | refine R.nilCheck rfl ?_ | refine R.nilCheckR rfl ?_ | refine R.loadR rfl rfl ?_ | refine R.load (by decide) rfl (by (repeat' (first | assumption | exact AHeap.set_same _ _ _ | refine AHeap.get_fresh (by assumption) ?_ | refine AHeap.so ?_ ?_ | exact AHeap.n1 (by assumption) | exact AHeap.n2 (by assumption) | exact AHeap.ne_of (by assumption) (by assumption) | exact AHeap.n4 (by assumption) (by assumption) | exact AHeap.n5 (by assumption) | exact AHeap.n6 (by assumption) | exact AHeap.n7 (by assumption) (by assumption) | exact AHeap.n8 (by assumption) (by assumption))); first | done | fail) rfl ?_ | refine S.addI rfl rfl (by omega) ?_ | refine S.subI rfl rfl (by omega) ?_ | refine S.addU rfl rfl ?_ | refine S.subU rfl rfl ?_ | refine S.addUc rfl (by decide) ?_ | refine S.subUc rfl (by decide) ?_ | refine S.arith rfl rfl rfl ?_ | refine R.pickT rfl rfl ?_ | refine R.pickF rfl rfl ?_ | refine R.len rfl ?_ | refine R.lenA rfl ?_ | refine R.lenStr rfl ?_ | refine S.convIU rfl (by omega) ?_ | refine S.convUI rfl (by omega) ?_ | refine R.convInt rfl ?_ | refine R.not rfl ?_ | refine R.eqPtrNil rfl rfl ?_ | refine R.extract rfl rfl ?_ | refine R.field rfl rfl ?_ | refine R.alloc rfl (fun b hb => ?_) | refine R.box rfl rfl rfl (fun b hb => ?_) | refine R.build rfl rfl ?_ | refine R.buildSl rfl rfl rfl (by decide) ?_ | refine R.toStr rfl ?_ | refine R.convStr rfl ?_ | refine R.minmax rfl ?_ | refine R.makeFunc rfl rfl ?_ | (first | refine S.lss rfl rfl (fun hlt => ?_) (fun hlt => by exfalso; omega) | refine S.lss rfl rfl (fun hlt => by exfalso; omega) (fun hlt => ?_) | refine S.lss rfl rfl (fun hlt => ?_) (fun hlt => ?_)) | (first | refine S.gtr rfl rfl (fun hlt => ?_) (fun hlt => by exfalso; omega) | refine S.gtr rfl rfl (fun hlt => by exfalso; omega) (fun hlt => ?_) | refine S.gtr rfl rfl (fun hlt => ?_) (fun hlt => ?_)) | (first | refine S.leq rfl rfl (fun hlt => ?_) (fun hlt => by exfalso; omega) | refine S.leq rfl rfl (fun hlt => by exfalso; omega) (fun hlt => ?_) | refine S.leq rfl rfl (fun hlt => ?_) (fun hlt => ?_)) | (first | refine S.geq rfl rfl (fun hlt => ?_) (fun hlt => by exfalso; omega) | refine S.geq rfl rfl (fun hlt => by exfalso; omega) (fun hlt => ?_) | refine S.geq rfl rfl (fun hlt => ?_) (fun hlt => ?_)) | (first | refine S.eqInt rfl rfl (fun hlt => ?_) (fun hlt => by exfalso; omega) | refine S.eqInt rfl rfl (fun hlt => by exfalso; omega) (fun hlt => ?_) | refine S.eqInt rfl rfl (fun hlt => ?_) (fun hlt => ?_))) | (refine S.op0 rfl ?_; first | refine S.storeS rfl rfl rfl (by rfl) rfl (by first | decide | exact Nat.le_refl _ | exact Nat.le_of_ble_eq_true rfl) ?_ | refine S.store rfl rfl (by (repeat' (first | assumption | exact AHeap.set_same _ _ _ | refine AHeap.get_fresh (by assumption) ?_ | refine AHeap.so ?_ ?_ | exact AHeap.n1 (by assumption) | exact AHeap.n2 (by assumption) | exact AHeap.ne_of (by assumption) (by assumption) | exact AHeap.n4 (by assumption) (by assumption) | exact AHeap.n5 (by assumption) | exact AHeap.n6 (by assumption) | exact AHeap.n7 (by assumption) (by assumption) | exact AHeap.n8 (by assumption) (by assumption))); first | done | fail) rfl rfl rfl (by rfl) rfl ?_) | refine S.skip rfl ?_ | refine S.skip0 rfl ?_ | refine S.seq ?_ | refine S.region ?_ | refine S.regionT ?_ | refine S.tstep ?_ | refine S.talt ?_ ?_ | exact S.tstop | refine S.tdone ?_ | refine S.condT rfl ?_ | refine S.condF rfl ?_ | refine RRun.skip ?_ | refine RRun.block ?_ | refine RRun.inBlock ?_ | refine RRun.exit rfl ?_)
      refine S.op rfl (S.appBytes (ys := [q]) rfl g1 rfl rfl (.sl _ _) (by simp only [List.length_cons, List.length_nil, List.length_append]; omega) (fun c2 h2 g2 _ => ?_))
      repeat' (first | refine S.nilK ?_ | (refine S.op rfl ?_; first | refine R.mv rfl ?_ | refine R.fieldAddr rfl ?_ | refine R.fieldAddrR rfl ?_ | refine R.nilCheck rfl ?_ | refine R.nilCheckR rfl ?_ | refine R.loadR rfl rfl ?_ | refine R.load (by decide) rfl (by (repeat' (first | assumption | exact AHeap.set_same _ _ _ | refine AHeap.get_fresh (by assumption) ?_ | refine AHeap.so ?_ ?_ | exact AHeap.n1 (by assumption) | exact AHeap.n2 (by assumption) | exact AHeap.ne_of (by assumption) (by assumption) | exact AHeap.n4 (by assumption) (by assumption) | exact AHeap.n5 (by assumption) | exact AHeap.n6 (by assumption) | exact AHeap.n7 (by assumption) (by assumption) | exact AHeap.n8 (by assumption) (by assumption))); first | done | fail) rfl ?_ | refine S.addI rfl rfl (by omega) ?_ | refine S.subI rfl rfl (by omega) ?_ | refine S.addU rfl rfl ?_ | refine S.subU rfl rfl ?_ | refine S.addUc rfl (by decide) ?_ | refine S.subUc rfl (by decide) ?_ | refine S.arith rfl rfl rfl ?_ | refine R.pickT rfl rfl ?_ | refine R.pickF rfl rfl ?_ | refine R.len rfl ?_ | refine R.lenA rfl ?_ | refine R.lenStr rfl ?_ | refine S.convIU rfl (by omega) ?_ | refine S.convUI rfl (by omega) ?_ | refine R.convInt rfl ?_ | refine R.not rfl ?_ | refine R.eqPtrNil rfl rfl ?_ | refine R.extract rfl rfl ?_ | refine R.field rfl rfl ?_ | refine R.alloc rfl (fun b hb => ?_) | refine R.box rfl rfl rfl (fun b hb => ?_) | refine R.build rfl rfl ?_ | refine R.buildSl rfl rfl rfl (by decide) ?_ | refine R.toStr rfl ?_ | refine R.convStr rfl ?_ | refine R.minmax rfl ?_ | refine R.makeFunc rfl rfl ?_ | (first | refine S.lss rfl rfl (fun hlt => ?_) (fun hlt => by exfalso; omega) | refine S.lss rfl rfl (fun hlt => by exfalso; omega) (fun hlt => ?_) | refine S.lss rfl rfl (fun hlt => ?_) (fun hlt => ?_)) | (first | refine S.gtr rfl rfl (fun hlt => ?_) (fun hlt => by exfalso; omega) | refine S.gtr rfl rfl (fun hlt => by exfalso; omega) (fun hlt => ?_) | refine S.gtr rfl rfl (fun hlt => ?_) (fun hlt => ?_)) | (first | refine S.leq rfl rfl (fun hlt => ?_) (fun hlt => by exfalso; omega) | refine S.leq rfl rfl (fun hlt => by exfalso; omega) (fun hlt => ?_) | refine S.leq rfl rfl (fun hlt => ?_) (fun hlt => ?_)) | (first | refine S.geq rfl rfl (fun hlt => ?_) (fun hlt => by exfalso; omega) | refine S.geq rfl rfl (fun hlt => by exfalso; omega) (fun hlt => ?_) | refine S.geq rfl rfl (fun hlt => ?_) (fun hlt => ?_)) | (first | refine S.eqInt rfl rfl (fun hlt => ?_) (fun hlt => by exfalso; omega) | refine S.eqInt rfl rfl (fun hlt => by exfalso; omega) (fun hlt => ?_) | refine S.eqInt rfl rfl (fun hlt => ?_) (fun hlt => ?_))) | (refine S.op0 rfl ?_; first | refine S.storeS rfl rfl rfl (by rfl) rfl (by first | decide | exact Nat.le_refl _ | exact Nat.le_of_ble_eq_true rfl) ?_ | refine S.store rfl rfl (by (repeat' (first | assumption | exact AHeap.set_same _ _ _ | refine AHeap.get_fresh (by assumption) ?_ | refine AHeap.so ?_ ?_ | exact AHeap.n1 (by assumption) | exact AHeap.n2 (by assumption) | exact AHeap.ne_of (by assumption) (by assumption) | exact AHeap.n4 (by assumption) (by assumption) | exact AHeap.n5 (by assumption) | exact AHeap.n6 (by assumption) | exact AHeap.n7 (by assumption) (by assumption) | exact AHeap.n8 (by assumption) (by assumption))); first | done | fail) rfl rfl rfl (by rfl) rfl ?_) | refine S.skip rfl ?_ | refine S.skip0 rfl ?_ | refine S.seq ?_ | refine S.region ?_ | refine S.regionT ?_ | refine S.tstep ?_ | refine S.talt ?_ ?_ | exact S.tstop | refine S.tdone ?_ | refine S.condT rfl ?_ | refine S.condF rfl ?_ | refine RRun.skip ?_ | refine RRun.block ?_ | refine RRun.inBlock ?_ | refine RRun.exit rfl ?_)
      rw [show ((i : Int) + 1) = ((i + 1 : Nat) : Int) by omega]
      exact S.keep [3, 40, 41, 42, 8, 9, 10] rfl (ih' c2 h2 g2)
    · have hq3 : q.toNat ≠ 39 := fun e => hq2 (UInt8.toNat_inj.1 e)
      have hd : dbl [q] = [q] := by simp [dbl, hq2]
      rw [hd] at ih'
      refine RRun.inLoop ?_
      repeat' (first | refine S.nilK ?_ | (refine S.op rfl ?_; first | refine R.indexAddr (cc := .ro) (es := Go.Av.byteCells s) rfl rfl (by omega) hga ?_ | refine R.mv rfl ?_ | refine R.fieldAddr rfl ?_ | refine R.fieldAddrR rfl ?_ | refine R.nilCheck rfl ?_ | refine R.nilCheckR rfl ?_ | refine R.loadR rfl rfl ?_ | refine R.load (by decide) rfl (by (repeat' (first | assumption | exact AHeap.set_same _ _ _ | refine AHeap.get_fresh (by assumption) ?_ | refine AHeap.so ?_ ?_ | exact AHeap.n1 (by assumption) | exact AHeap.n2 (by assumption) | exact AHeap.ne_of (by assumption) (by assumption) | exact AHeap.n4 (by assumption) (by assumption) | exact AHeap.n5 (by assumption) | exact AHeap.n6 (by assumption) | exact AHeap.n7 (by assumption) (by assumption) | exact AHeap.n8 (by assumption) (by assumption))); first | done | fail) rfl ?_ | refine S.addI rfl rfl (by omega) ?_ | refine S.subI rfl rfl (by omega) ?_ | refine S.addU rfl rfl ?_ | refine S.subU rfl rfl ?_ | refine S.addUc rfl (by decide) ?_ | refine S.subUc rfl (by decide) ?_ | refine S.arith rfl rfl rfl ?_ | refine R.pickT rfl rfl ?_ | refine R.pickF rfl rfl ?_ | refine R.len rfl ?_ | refine R.lenA rfl ?_ | refine R.lenStr rfl ?_ | refine S.convIU rfl (by omega) ?_ | refine S.convUI rfl (by omega) ?_ | refine R.convInt rfl ?_ | refine R.not rfl ?_ | refine R.eqPtrNil rfl rfl ?_ | refine R.extract rfl rfl ?_ | refine R.field rfl rfl ?_ | refine R.alloc rfl (fun b hb => ?_) | refine R.box rfl rfl rfl (fun b hb => ?_) | refine R.build rfl rfl ?_ | refine R.buildSl rfl rfl rfl (by decide) ?_ | refine R.toStr rfl ?_ | refine R.convStr rfl ?_ | refine R.minmax rfl ?_ | refine R.makeFunc rfl rfl ?_ | (first | refine S.lss rfl rfl (fun hlt => ?_) (fun hlt => by exfalso; omega) | refine S.lss rfl rfl (fun hlt => by exfalso; omega) (fun hlt => ?_) | refine S.lss rfl rfl (fun hlt => ?_) (fun hlt => ?_)) | (first | refine S.gtr rfl rfl (fun hlt => ?_) (fun hlt => by exfalso; omega) | refine S.gtr rfl rfl (fun hlt => by exfalso; omega) (fun hlt => ?_) | refine S.gtr rfl rfl (fun hlt => ?_) (fun hlt => ?_)) | (first | refine S.leq rfl rfl (fun hlt => ?_) (fun hlt => by exfalso; omega) | refine S.leq rfl rfl (fun hlt => by exfalso; omega) (fun hlt => ?_) | refine S.leq rfl rfl (fun hlt => ?_) (fun hlt => ?_)) | (first | refine S.geq rfl rfl (fun hlt => ?_) (fun hlt => by exfalso; omega) | refine S.geq rfl rfl (fun hlt => by exfalso; omega) (fun hlt => ?_) | refine S.geq rfl rfl (fun hlt => ?_) (fun hlt => ?_)) | (first | refine S.eqInt rfl rfl (fun hlt => ?_) (fun hlt => by exfalso; omega) | refine S.eqInt rfl rfl (fun hlt => by exfalso; omega) (fun hlt => ?_) | refine S.eqInt rfl rfl (fun hlt => ?_) (fun hlt => ?_))) | (refine S.op0 rfl ?_; first | refine S.storeS rfl rfl rfl (by rfl) rfl (by first | decide | exact Nat.le_refl _ | exact Nat.le_of_ble_eq_true rfl) ?_ | refine S.store rfl rfl (by (repeat' (first | assumption | exact AHeap.set_same _ _ _ | refine AHeap.get_fresh (by assumption) ?_ | refine AHeap.so ?_ ?_ | exact AHeap.n1 (by assumption) | exact AHeap.n2 (by assumption) | exact AHeap.ne_of (by assumption) (by assumption) | exact AHeap.n4 (by assumption) (by assumption) | exact AHeap.n5 (by assumption) | exact AHeap.n6 (by assumption) | exact AHeap.n7 (by assumption) (by assumption) | exact AHeap.n8 (by assumption) (by assumption))); first | done | fail) rfl rfl rfl (by rfl) rfl ?_) | refine S.skip rfl ?_ | refine S.skip0 rfl ?_ | refine S.seq ?_ | refine S.region ?_ | refine S.regionT ?_ | refine S.tstep ?_ | refine S.talt ?_ ?_ | exact S.tstop | refine S.tdone ?_ | refine S.condT rfl ?_ | refine S.condF rfl ?_ | refine RRun.skip ?_ | refine RRun.block ?_ | refine RRun.inBlock ?_ | refine RRun.exit rfl ?_)
      refine S.op rfl (S.appBytes (ys := [q]) rfl hg rfl rfl (.sl _ _) (by simp only [List.length_cons, List.length_nil]; omega) (fun c1 h1 g1 _ => ?_))
      repeat' (first | refine S.nilK ?_ | (refine S.op rfl ?_; first | refine R.mv rfl ?_ | refine R.fieldAddr rfl ?_ | refine R.fieldAddrR rfl ?_ | refine R.nilCheck rfl ?_ | refine R.nilCheckR rfl ?_ | refine R.loadR rfl rfl ?_ | refine R.load (by decide) rfl (by (repeat' (first | assumption | exact AHeap.set_same _ _ _ | refine AHeap.get_fresh (by assumption) ?_ | refine AHeap.so ?_ ?_ | exact AHeap.n1 (by assumption) | exact AHeap.n2 (by assumption) | exact AHeap.ne_of (by assumption) (by assumption) | exact AHeap.n4 (by assumption) (by assumption) | exact AHeap.n5 (by assumption) | exact AHeap.n6 (by assumption) | exact AHeap.n7 (by assumption) (by assumption) | exact AHeap.n8 (by assumption) (by assumption))); first | done | fail) rfl ?_ | refine S.addI rfl rfl (by omega) ?_ | refine S.subI rfl rfl (by omega) ?_ | refine S.addU rfl rfl ?_ | refine S.subU rfl rfl ?_ | refine S.addUc rfl (by decide) ?_ | refine S.subUc rfl (by decide) ?_ | refine S.arith rfl rfl rfl ?_ | refine R.pickT rfl rfl ?_ | refine R.pickF rfl rfl ?_ | refine R.len rfl ?_ | refine R.lenA rfl ?_ | refine R.lenStr rfl ?_ | refine S.convIU rfl (by omega) ?_ | refine S.convUI rfl (by omega) ?_ | refine R.convInt rfl ?_ | refine R.not rfl ?_ | refine R.eqPtrNil rfl rfl ?_ | refine R.extract rfl rfl ?_ | refine R.field rfl rfl ?_ | refine R.alloc rfl (fun b hb => ?_) | refine R.box rfl rfl rfl (fun b hb => ?_) | refine R.build rfl rfl ?_ | refine R.buildSl rfl rfl rfl (by decide) ?_ | refine R.toStr rfl ?_ | refine R.convStr rfl ?_ | refine R.minmax rfl ?_ | refine R.makeFunc rfl rfl ?_ | (first | refine S.lss rfl rfl (fun hlt => ?_) (fun hlt => by exfalso; omega) | refine S.lss rfl rfl (fun hlt => by exfalso; omega) (fun hlt => ?_) | refine S.lss rfl rfl (fun hlt => ?_) (fun hlt => ?_)) | (first | refine S.gtr rfl rfl (fun hlt => ?_) (fun hlt => by exfalso; omega) | refine S.gtr rfl rfl (fun hlt => by exfalso; omega) (fun hlt => ?_) | refine S.gtr rfl rfl (fun hlt => ?_) (fun hlt => ?_)) | (first | refine S.leq rfl rfl (fun hlt => ?_) (fun hlt => by exfalso; omega) | refine S.leq rfl rfl (fun hlt => by exfalso; omega) (fun hlt => ?_) | refine S.leq rfl rfl (fun hlt => ?_) (fun hlt => ?_)) | (first | refine S.geq rfl rfl (fun hlt => ?_) (fun hlt => by exfalso; omega) | refine S.geq rfl rfl (fun hlt => by exfalso; omega) (fun hlt => ?_) | refine S.geq rfl rfl (fun hlt => ?_) (fun hlt => ?_)) | (first | refine S.eqInt rfl rfl (fun hlt => ?_) (fun hlt => by exfalso; omega) | refine S.eqInt rfl rfl (fun hlt => by exfalso; omega) (fun hlt => ?_) | refine S.eqInt rfl rfl (fun hlt => ?_) (fun hlt => ?_))) | (refine S.op0 rfl ?_; first | refine S.storeS rfl rfl rfl (by rfl) rfl (by first | decide | exact Nat.le_refl _ | exact Nat.le_of_ble_eq_true rfl) ?_ | refine S.store rfl rfl (by (repeat' (first | assumption | exact AHeap.set_same _ _ _ | refine AHeap.get_fresh (by assumption) ?_ | refine AHeap.so ?_ ?_ | exact AHeap.n1 (by assumption) | exact AHeap.n2 (by assumption) | exact AHeap.ne_of (by assumption) (by assumption) | exact AHeap.n4 (by assumption) (by assumption) | exact AHeap.n5 (by assumption) | exact AHeap.n6 (by assumption) | exact AHeap.n7 (by assumption) (by assumption) | exact AHeap.n8 (by assumption) (by assumption))); first | done | fail) rfl rfl rfl (by rfl) rfl ?_) | refine S.skip rfl ?_ | refine S.skip0 rfl ?_ | refine S.seq ?_ | refine S.region ?_ | refine S.regionT ?_ | refine S.tstep ?_ | refine S.talt ?_ ?_ | exact S.tstop | refine S.tdone ?_ | refine S.condT rfl ?_ | refine S.condF rfl ?_ | refine RRun.skip ?_ | refine RRun.block ?_ | refine RRun.inBlock ?_ | refine RRun.exit rfl ?_)
      rw [show ((i : Int) + 1) = ((i + 1 : Nat) : Int) by omega]
      exact S.keep [3, 40, 41, 42, 8, 9, 10] rfl (ih' c1 h1 g1)

end Go.Proofs.Ytcjcmegkfplnkaa
