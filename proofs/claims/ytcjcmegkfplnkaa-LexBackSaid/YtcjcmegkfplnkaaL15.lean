import Derived.Test.YtcjcmegkfplnkaaL14
set_option linter.unusedVariables false
set_option linter.unusedSimpArgs false
namespace Go.Proofs.Ytcjcmegkfplnkaa
open Go.Av

def Tok.key (t : Tok) : Int × List UInt8 × Int := (t.kind, t.s, t.n)

def r9l0 : RCode :=
  (.seq (.region [
    ⟨(some 14), none, .act, .bin .lss (.tmp 13) (.tmp 12)⟩])
  (.seq (.cond (.tmp 14)
   .skip
   (.exit 0))
  (.seq (.block 1
   (.seq (.region [
     ⟨(some 15), none, .act, .mv (.tmp 13)⟩,
     ⟨(some 5), none, .act, .mv (.tmp 15)⟩])
   (.seq (.region [
     ⟨(some 16), none, .pure, .mv (.tmp 0)⟩,
     ⟨(some 17), none, .pure, .mv (.tmp 5)⟩,
     ⟨(some 18), none, .pure, .indexAddr 4 (.tmp 16) (.tmp 17)⟩,
     ⟨(some 19), none, .pure, .fieldAddr 0 (.tmp 18)⟩,
     ⟨(some 20), none, .read, .load false 1 (.tmp 19)⟩,
     ⟨(some 21), none, .pure, .mv (.tmp 1)⟩,
     ⟨(some 22), none, .pure, .mv (.tmp 5)⟩,
     ⟨(some 23), none, .pure, .indexAddr 4 (.tmp 21) (.tmp 22)⟩,
     ⟨(some 24), none, .pure, .fieldAddr 0 (.tmp 23)⟩,
     ⟨(some 25), none, .read, .load false 1 (.tmp 24)⟩,
     ⟨(some 26), none, .pure, .eq true .int (.tmp 20) (.tmp 25)⟩,
     ⟨(some 27), none, .pure, .mv (.tmp 26)⟩,
     ⟨(some 28), (some (27, false)), .pure, .mv (.tmp 0)⟩,
     ⟨(some 29), (some (27, false)), .pure, .mv (.tmp 5)⟩,
     ⟨(some 30), (some (27, false)), .pure, .indexAddr 4 (.tmp 28) (.tmp 29)⟩,
     ⟨(some 31), (some (27, false)), .pure, .fieldAddr 1 (.tmp 30)⟩,
     ⟨(some 32), (some (27, false)), .read, .load false 1 (.tmp 31)⟩,
     ⟨(some 33), (some (27, false)), .pure, .mv (.tmp 1)⟩,
     ⟨(some 34), (some (27, false)), .pure, .mv (.tmp 5)⟩,
     ⟨(some 35), (some (27, false)), .pure, .indexAddr 4 (.tmp 33) (.tmp 34)⟩,
     ⟨(some 36), (some (27, false)), .pure, .fieldAddr 1 (.tmp 35)⟩,
     ⟨(some 37), (some (27, false)), .read, .load false 1 (.tmp 36)⟩,
     ⟨(some 38), (some (27, false)), .pure, .eq true .str (.tmp 32) (.tmp 37)⟩,
     ⟨(some 39), none, .pure, .pick (.tmp 27) (.const (.bool true)) (.tmp 38)⟩,
     ⟨(some 40), none, .pure, .mv (.tmp 39)⟩,
     ⟨(some 41), (some (40, false)), .pure, .mv (.tmp 0)⟩,
     ⟨(some 42), (some (40, false)), .pure, .mv (.tmp 5)⟩,
     ⟨(some 43), (some (40, false)), .pure, .indexAddr 4 (.tmp 41) (.tmp 42)⟩,
     ⟨(some 44), (some (40, false)), .pure, .fieldAddr 2 (.tmp 43)⟩,
     ⟨(some 45), (some (40, false)), .read, .load false 1 (.tmp 44)⟩,
     ⟨(some 46), (some (40, false)), .pure, .mv (.tmp 1)⟩,
     ⟨(some 47), (some (40, false)), .pure, .mv (.tmp 5)⟩,
     ⟨(some 48), (some (40, false)), .pure, .indexAddr 4 (.tmp 46) (.tmp 47)⟩,
     ⟨(some 49), (some (40, false)), .pure, .fieldAddr 2 (.tmp 48)⟩,
     ⟨(some 50), (some (40, false)), .read, .load false 1 (.tmp 49)⟩,
     ⟨(some 51), (some (40, false)), .pure, .eq true .int (.tmp 45) (.tmp 50)⟩,
     ⟨(some 52), none, .pure, .pick (.tmp 40) (.const (.bool true)) (.tmp 51)⟩])
   (.cond (.tmp 52)
    (.seq (.region [
      ⟨(some 4), none, .act, .mv (.const (.bool false))⟩])
    .ret)
    .skip))))
  (.region [
    ⟨(some 53), none, .act, .bin .add (.tmp 13) (.const (.int .i64 1))⟩,
    ⟨(some 13), none, .act, .mv (.tmp 53)⟩]))))
/-- plenum/plenumlaw19.same -/
def r9 : RCode :=
  (.seq (.region [
    ⟨(some 4), none, .act, .mv (.const (.bool false))⟩])
  (.seq (.seq (.region [
    ⟨(some 6), none, .act, .mv (.tmp 0)⟩,
    ⟨(some 7), none, .act, .len (.tmp 6)⟩,
    ⟨(some 8), none, .act, .mv (.tmp 1)⟩,
    ⟨(some 9), none, .act, .len (.tmp 8)⟩,
    ⟨(some 10), none, .act, .eq true .int (.tmp 7) (.tmp 9)⟩])
  (.cond (.tmp 10)
   (.seq (.region [
     ⟨(some 4), none, .act, .mv (.const (.bool false))⟩])
   .ret)
   .skip))
  (.seq (.seq (.region [
    ⟨(some 11), none, .act, .mv (.tmp 0)⟩,
    ⟨(some 12), none, .act, .len (.tmp 11)⟩,
    ⟨(some 13), none, .act, .mv (.const (.int .i64 0))⟩])
  (.block 0
   (.loop r9l0)))
  (.seq (.region [
    ⟨(some 4), none, .act, .mv (.const (.bool true))⟩])
  .ret))))
theorem res9 : ∃ c, Try.f9.body = some c ∧ resCode Try.prog 54 c = some r9 := ⟨_, rfl, by kernel_rfl⟩
theorem rr9 : resRes Try.prog Try.f9.results.toList = some [.tmp 4] := by kernel_rfl
theorem same_loop (a b : List Tok) (hl : a.length ≤ 1000000) (he : a.map Tok.key = b.map Tok.key) (h : AHeap) (k : List RT) (Q : AV → AHeap → Prop) : ∀ (m j : Nat), j + m = a.length →
    RRun Try.prog Try.f9 54 k (Env.get [(0, toksA a .ro), (1, toksA b .ro)]) h Q →
    RRun Try.prog Try.f9 54 (.inLoop r9l0 :: .inBlock 0 :: k) (Env.get [(13, i64 j), (12, i64 a.length), (0, toksA a .ro), (1, toksA b .ro)]) h Q := by
  have hlen : a.length = b.length := by have := congrArg List.length he; simpa using this
  have hla : (a.map Tok.cells).length = a.length := by simp
  have hlb : (b.map Tok.cells).length = b.length := by simp
  intro m
  induction m with
  | zero =>
    intro j hj hk
    refine RRun.inLoop ?_
    repeat' (first | refine S.nilK ?_ | (refine S.op rfl ?_; first | refine R.mv rfl ?_ | refine R.fieldAddr rfl ?_ | refine R.fieldAddrR rfl ?_ | refine R.nilCheck rfl ?_ | refine R.nilCheckR rfl ?_ | refine R.loadR rfl rfl ?_ | refine R.load (by decide) rfl (by (repeat' (first | assumption | exact AHeap.set_same _ _ _ | refine AHeap.get_fresh (by assumption) ?_ | refine AHeap.so ?_ ?_ | exact AHeap.n1 (by assumption) | exact AHeap.n2 (by assumption) | exact AHeap.ne_of (by assumption) (by assumption) | exact AHeap.n4 (by assumption) (by assumption) | exact AHeap.n5 (by assumption) | exact AHeap.n6 (by assumption) | exact AHeap.n7 (by assumption) (by assumption) | exact AHeap.n8 (by assumption) (by assumption))); first | done | fail) rfl ?_ | refine S.addI rfl rfl (by omega) ?_ | refine S.subI rfl rfl (by omega) ?_ | refine S.addU rfl rfl ?_ | refine S.subU rfl rfl ?_ | refine S.addUc rfl (by decide) ?_ | refine S.subUc rfl (by decide) ?_ | refine S.arith rfl rfl rfl ?_ | refine R.pickT rfl rfl ?_ | refine R.pickF rfl rfl ?_ | refine R.len rfl ?_ | refine R.lenA rfl ?_ | refine R.lenStr rfl ?_ | refine S.convIU rfl (by omega) ?_ | refine S.convUI rfl (by omega) ?_ | refine R.convInt rfl ?_ | refine R.not rfl ?_ | refine R.eqPtrNil rfl rfl ?_ | refine R.extract rfl rfl ?_ | refine R.field rfl rfl ?_ | refine R.alloc rfl (fun b hb => ?_) | refine R.box rfl rfl rfl (fun b hb => ?_) | refine R.build rfl rfl ?_ | refine R.buildSl rfl rfl rfl (by decide) ?_ | refine R.toStr rfl ?_ | refine R.convStr rfl ?_ | refine R.minmax rfl ?_ | refine R.makeFunc rfl rfl ?_ | (first | refine S.lss rfl rfl (fun hlt => ?_) (fun hlt => by exfalso; omega) | refine S.lss rfl rfl (fun hlt => by exfalso; omega) (fun hlt => ?_) | refine S.lss rfl rfl (fun hlt => ?_) (fun hlt => ?_)) | (first | refine S.gtr rfl rfl (fun hlt => ?_) (fun hlt => by exfalso; omega) | refine S.gtr rfl rfl (fun hlt => by exfalso; omega) (fun hlt => ?_) | refine S.gtr rfl rfl (fun hlt => ?_) (fun hlt => ?_)) | (first | refine S.leq rfl rfl (fun hlt => ?_) (fun hlt => by exfalso; omega) | refine S.leq rfl rfl (fun hlt => by exfalso; omega) (fun hlt => ?_) | refine S.leq rfl rfl (fun hlt => ?_) (fun hlt => ?_)) | (first | refine S.geq rfl rfl (fun hlt => ?_) (fun hlt => by exfalso; omega) | refine S.geq rfl rfl (fun hlt => by exfalso; omega) (fun hlt => ?_) | refine S.geq rfl rfl (fun hlt => ?_) (fun hlt => ?_)) | (first | refine S.eqInt rfl rfl (fun hlt => ?_) (fun hlt => by exfalso; omega) | refine S.eqInt rfl rfl (fun hlt => by exfalso; omega) (fun hlt => ?_) | refine S.eqInt rfl rfl (fun hlt => ?_) (fun hlt => ?_))) | (refine S.op0 rfl ?_; first | refine S.storeS rfl rfl rfl (by rfl) rfl (by first | decide | exact Nat.le_refl _ | exact Nat.le_of_ble_eq_true rfl) ?_ | refine S.store rfl rfl (by (repeat' (first | assumption | exact AHeap.set_same _ _ _ | refine AHeap.get_fresh (by assumption) ?_ | refine AHeap.so ?_ ?_ | exact AHeap.n1 (by assumption) | exact AHeap.n2 (by assumption) | exact AHeap.ne_of (by assumption) (by assumption) | exact AHeap.n4 (by assumption) (by assumption) | exact AHeap.n5 (by assumption) | exact AHeap.n6 (by assumption) | exact AHeap.n7 (by assumption) (by assumption) | exact AHeap.n8 (by assumption) (by assumption))); first | done | fail) rfl rfl rfl (by rfl) rfl ?_) | refine S.skip rfl ?_ | refine S.skip0 rfl ?_ | refine S.seq ?_ | refine S.region ?_ | refine S.regionT ?_ | refine S.tstep ?_ | refine S.talt ?_ ?_ | exact S.tstop | refine S.tdone ?_ | refine S.condT rfl ?_ | refine S.condF rfl ?_ | refine RRun.skip ?_ | refine RRun.block ?_ | refine RRun.inBlock ?_ | refine RRun.exit rfl ?_)
    exact S.keep [0, 1] rfl hk
  | succ m ih =>
    intro j hj hk
    have hlt : j < a.length := by omega
    have hltb : j < b.length := by omega
    have hga : (a.map Tok.cells)[((j : Nat) : Int).toNat]? = some a[j].cells := by simp [hlt]
    have hgb : (b.map Tok.cells)[((j : Nat) : Int).toNat]? = some b[j].cells := by simp [hltb]
    have hke : a[j].key = b[j].key := by
      have : (a.map Tok.key)[j]? = (b.map Tok.key)[j]? := by rw [he]
      simpa [hlt, hltb] using this
    have ih' := ih (j + 1) (by omega) hk
    generalize a[j] = x at hga hke
    generalize b[j] = y at hgb hke
    obtain ⟨k1, s1, n1, p1⟩ := x
    obtain ⟨k2, s2, n2, p2⟩ := y
    simp only [Tok.key, Prod.mk.injEq] at hke
    obtain ⟨rfl, rfl, rfl⟩ := hke
    replace hga : (a.map Tok.cells)[((j : Nat) : Int).toNat]? = some [i64 k1, str s1, i64 n1, i64 p1] := hga
    replace hgb : (b.map Tok.cells)[((j : Nat) : Int).toNat]? = some [i64 k1, str s1, i64 n1, i64 p2] := hgb
    refine RRun.inLoop ?_
    unfold toksA
    repeat' (first | refine S.nilK ?_ | (refine S.op rfl ?_; first | refine R.indexAddr (cc := .ro) (es := a.map Tok.cells) rfl rfl (by omega) hga ?_ | refine R.indexAddr (cc := .ro) (es := b.map Tok.cells) rfl rfl (by omega) hgb ?_ | refine S.eqIntSame rfl rfl ?_ | refine S.eqSB (r := true) rfl rfl (by simp) ?_ | refine R.mv rfl ?_ | refine R.fieldAddr rfl ?_ | refine R.fieldAddrR rfl ?_ | refine R.nilCheck rfl ?_ | refine R.nilCheckR rfl ?_ | refine R.loadR rfl rfl ?_ | refine R.load (by decide) rfl (by (repeat' (first | assumption | exact AHeap.set_same _ _ _ | refine AHeap.get_fresh (by assumption) ?_ | refine AHeap.so ?_ ?_ | exact AHeap.n1 (by assumption) | exact AHeap.n2 (by assumption) | exact AHeap.ne_of (by assumption) (by assumption) | exact AHeap.n4 (by assumption) (by assumption) | exact AHeap.n5 (by assumption) | exact AHeap.n6 (by assumption) | exact AHeap.n7 (by assumption) (by assumption) | exact AHeap.n8 (by assumption) (by assumption))); first | done | fail) rfl ?_ | refine S.addI rfl rfl (by omega) ?_ | refine S.subI rfl rfl (by omega) ?_ | refine S.addU rfl rfl ?_ | refine S.subU rfl rfl ?_ | refine S.addUc rfl (by decide) ?_ | refine S.subUc rfl (by decide) ?_ | refine S.arith rfl rfl rfl ?_ | refine R.pickT rfl rfl ?_ | refine R.pickF rfl rfl ?_ | refine R.len rfl ?_ | refine R.lenA rfl ?_ | refine R.lenStr rfl ?_ | refine S.convIU rfl (by omega) ?_ | refine S.convUI rfl (by omega) ?_ | refine R.convInt rfl ?_ | refine R.not rfl ?_ | refine R.eqPtrNil rfl rfl ?_ | refine R.extract rfl rfl ?_ | refine R.field rfl rfl ?_ | refine R.alloc rfl (fun b hb => ?_) | refine R.box rfl rfl rfl (fun b hb => ?_) | refine R.build rfl rfl ?_ | refine R.buildSl rfl rfl rfl (by decide) ?_ | refine R.toStr rfl ?_ | refine R.convStr rfl ?_ | refine R.minmax rfl ?_ | refine R.makeFunc rfl rfl ?_ | (first | refine S.lss rfl rfl (fun hlt => ?_) (fun hlt => by exfalso; omega) | refine S.lss rfl rfl (fun hlt => by exfalso; omega) (fun hlt => ?_) | refine S.lss rfl rfl (fun hlt => ?_) (fun hlt => ?_)) | (first | refine S.gtr rfl rfl (fun hlt => ?_) (fun hlt => by exfalso; omega) | refine S.gtr rfl rfl (fun hlt => by exfalso; omega) (fun hlt => ?_) | refine S.gtr rfl rfl (fun hlt => ?_) (fun hlt => ?_)) | (first | refine S.leq rfl rfl (fun hlt => ?_) (fun hlt => by exfalso; omega) | refine S.leq rfl rfl (fun hlt => by exfalso; omega) (fun hlt => ?_) | refine S.leq rfl rfl (fun hlt => ?_) (fun hlt => ?_)) | (first | refine S.geq rfl rfl (fun hlt => ?_) (fun hlt => by exfalso; omega) | refine S.geq rfl rfl (fun hlt => by exfalso; omega) (fun hlt => ?_) | refine S.geq rfl rfl (fun hlt => ?_) (fun hlt => ?_)) | (first | refine S.eqInt rfl rfl (fun hlt => ?_) (fun hlt => by exfalso; omega) | refine S.eqInt rfl rfl (fun hlt => by exfalso; omega) (fun hlt => ?_) | refine S.eqInt rfl rfl (fun hlt => ?_) (fun hlt => ?_))) | (refine S.op0 rfl ?_; first | refine S.storeS rfl rfl rfl (by rfl) rfl (by first | decide | exact Nat.le_refl _ | exact Nat.le_of_ble_eq_true rfl) ?_ | refine S.store rfl rfl (by (repeat' (first | assumption | exact AHeap.set_same _ _ _ | refine AHeap.get_fresh (by assumption) ?_ | refine AHeap.so ?_ ?_ | exact AHeap.n1 (by assumption) | exact AHeap.n2 (by assumption) | exact AHeap.ne_of (by assumption) (by assumption) | exact AHeap.n4 (by assumption) (by assumption) | exact AHeap.n5 (by assumption) | exact AHeap.n6 (by assumption) | exact AHeap.n7 (by assumption) (by assumption) | exact AHeap.n8 (by assumption) (by assumption))); first | done | fail) rfl rfl rfl (by rfl) rfl ?_) | refine S.skip rfl ?_ | refine S.skip0 rfl ?_ | refine S.seq ?_ | refine S.region ?_ | refine S.regionT ?_ | refine S.tstep ?_ | refine S.talt ?_ ?_ | exact S.tstop | refine S.tdone ?_ | refine S.condT rfl ?_ | refine S.condF rfl ?_ | refine RRun.skip ?_ | refine RRun.block ?_ | refine RRun.inBlock ?_ | refine RRun.exit rfl ?_)
    rw [show ((j : Int) + 1) = ((j + 1 : Nat) : Int) by omega]
    exact S.keep [13, 12, 0, 1] rfl ih'

theorem same_spec' (a b : List Tok) (hl : a.length ≤ 1000000) (he : a.map Tok.key = b.map Tok.key) (h : AHeap) : ACalls Try.prog 9 [toksA a .ro, toksA b .ro] h (fun x h' => x = bl true ∧ h' = h) := by
  obtain ⟨c, hc1, hc2⟩ := res9
  refine ACalls.enter Try.func9 hc1 Try.ntmps9 hc2 (Nat.le_of_ble_eq_true rfl) rfl ?_
  have hlen : a.length = b.length := by have := congrArg List.length he; simpa using this
  have hla : (a.map Tok.cells).length = a.length := by simp
  have hlb : (b.map Tok.cells).length = b.length := by simp
  unfold toksA
  repeat' (first | refine S.nilK ?_ | (refine S.op rfl ?_; first | refine R.mv rfl ?_ | refine R.fieldAddr rfl ?_ | refine R.fieldAddrR rfl ?_ | refine R.nilCheck rfl ?_ | refine R.nilCheckR rfl ?_ | refine R.loadR rfl rfl ?_ | refine R.load (by decide) rfl (by (repeat' (first | assumption | exact AHeap.set_same _ _ _ | refine AHeap.get_fresh (by assumption) ?_ | refine AHeap.so ?_ ?_ | exact AHeap.n1 (by assumption) | exact AHeap.n2 (by assumption) | exact AHeap.ne_of (by assumption) (by assumption) | exact AHeap.n4 (by assumption) (by assumption) | exact AHeap.n5 (by assumption) | exact AHeap.n6 (by assumption) | exact AHeap.n7 (by assumption) (by assumption) | exact AHeap.n8 (by assumption) (by assumption))); first | done | fail) rfl ?_ | refine S.addI rfl rfl (by omega) ?_ | refine S.subI rfl rfl (by omega) ?_ | refine S.addU rfl rfl ?_ | refine S.subU rfl rfl ?_ | refine S.addUc rfl (by decide) ?_ | refine S.subUc rfl (by decide) ?_ | refine S.arith rfl rfl rfl ?_ | refine R.pickT rfl rfl ?_ | refine R.pickF rfl rfl ?_ | refine R.len rfl ?_ | refine R.lenA rfl ?_ | refine R.lenStr rfl ?_ | refine S.convIU rfl (by omega) ?_ | refine S.convUI rfl (by omega) ?_ | refine R.convInt rfl ?_ | refine R.not rfl ?_ | refine R.eqPtrNil rfl rfl ?_ | refine R.extract rfl rfl ?_ | refine R.field rfl rfl ?_ | refine R.alloc rfl (fun b hb => ?_) | refine R.box rfl rfl rfl (fun b hb => ?_) | refine R.build rfl rfl ?_ | refine R.buildSl rfl rfl rfl (by decide) ?_ | refine R.toStr rfl ?_ | refine R.convStr rfl ?_ | refine R.minmax rfl ?_ | refine R.makeFunc rfl rfl ?_ | (first | refine S.lss rfl rfl (fun hlt => ?_) (fun hlt => by exfalso; omega) | refine S.lss rfl rfl (fun hlt => by exfalso; omega) (fun hlt => ?_) | refine S.lss rfl rfl (fun hlt => ?_) (fun hlt => ?_)) | (first | refine S.gtr rfl rfl (fun hlt => ?_) (fun hlt => by exfalso; omega) | refine S.gtr rfl rfl (fun hlt => by exfalso; omega) (fun hlt => ?_) | refine S.gtr rfl rfl (fun hlt => ?_) (fun hlt => ?_)) | (first | refine S.leq rfl rfl (fun hlt => ?_) (fun hlt => by exfalso; omega) | refine S.leq rfl rfl (fun hlt => by exfalso; omega) (fun hlt => ?_) | refine S.leq rfl rfl (fun hlt => ?_) (fun hlt => ?_)) | (first | refine S.geq rfl rfl (fun hlt => ?_) (fun hlt => by exfalso; omega) | refine S.geq rfl rfl (fun hlt => by exfalso; omega) (fun hlt => ?_) | refine S.geq rfl rfl (fun hlt => ?_) (fun hlt => ?_)) | (first | refine S.eqInt rfl rfl (fun hlt => ?_) (fun hlt => by exfalso; omega) | refine S.eqInt rfl rfl (fun hlt => by exfalso; omega) (fun hlt => ?_) | refine S.eqInt rfl rfl (fun hlt => ?_) (fun hlt => ?_))) | (refine S.op0 rfl ?_; first | refine S.storeS rfl rfl rfl (by rfl) rfl (by first | decide | exact Nat.le_refl _ | exact Nat.le_of_ble_eq_true rfl) ?_ | refine S.store rfl rfl (by (repeat' (first | assumption | exact AHeap.set_same _ _ _ | refine AHeap.get_fresh (by assumption) ?_ | refine AHeap.so ?_ ?_ | exact AHeap.n1 (by assumption) | exact AHeap.n2 (by assumption) | exact AHeap.ne_of (by assumption) (by assumption) | exact AHeap.n4 (by assumption) (by assumption) | exact AHeap.n5 (by assumption) | exact AHeap.n6 (by assumption) | exact AHeap.n7 (by assumption) (by assumption) | exact AHeap.n8 (by assumption) (by assumption))); first | done | fail) rfl rfl rfl (by rfl) rfl ?_) | refine S.skip rfl ?_ | refine S.skip0 rfl ?_ | refine S.seq ?_ | refine S.region ?_ | refine S.regionT ?_ | refine S.tstep ?_ | refine S.talt ?_ ?_ | exact S.tstop | refine S.tdone ?_ | refine S.condT rfl ?_ | refine S.condF rfl ?_ | refine RRun.skip ?_ | refine RRun.block ?_ | refine RRun.inBlock ?_ | refine RRun.exit rfl ?_)
  rw [hla]
  refine RRun.loopIn (S.keep [13, 12, 0, 1] rfl (same_loop a b hl he h _ _ a.length 0 (by omega) ?_))
  repeat' (first | refine S.nilK ?_ | (refine S.op rfl ?_; first | refine R.mv rfl ?_ | refine R.fieldAddr rfl ?_ | refine R.fieldAddrR rfl ?_ | refine R.nilCheck rfl ?_ | refine R.nilCheckR rfl ?_ | refine R.loadR rfl rfl ?_ | refine R.load (by decide) rfl (by (repeat' (first | assumption | exact AHeap.set_same _ _ _ | refine AHeap.get_fresh (by assumption) ?_ | refine AHeap.so ?_ ?_ | exact AHeap.n1 (by assumption) | exact AHeap.n2 (by assumption) | exact AHeap.ne_of (by assumption) (by assumption) | exact AHeap.n4 (by assumption) (by assumption) | exact AHeap.n5 (by assumption) | exact AHeap.n6 (by assumption) | exact AHeap.n7 (by assumption) (by assumption) | exact AHeap.n8 (by assumption) (by assumption))); first | done | fail) rfl ?_ | refine S.addI rfl rfl (by omega) ?_ | refine S.subI rfl rfl (by omega) ?_ | refine S.addU rfl rfl ?_ | refine S.subU rfl rfl ?_ | refine S.addUc rfl (by decide) ?_ | refine S.subUc rfl (by decide) ?_ | refine S.arith rfl rfl rfl ?_ | refine R.pickT rfl rfl ?_ | refine R.pickF rfl rfl ?_ | refine R.len rfl ?_ | refine R.lenA rfl ?_ | refine R.lenStr rfl ?_ | refine S.convIU rfl (by omega) ?_ | refine S.convUI rfl (by omega) ?_ | refine R.convInt rfl ?_ | refine R.not rfl ?_ | refine R.eqPtrNil rfl rfl ?_ | refine R.extract rfl rfl ?_ | refine R.field rfl rfl ?_ | refine R.alloc rfl (fun b hb => ?_) | refine R.box rfl rfl rfl (fun b hb => ?_) | refine R.build rfl rfl ?_ | refine R.buildSl rfl rfl rfl (by decide) ?_ | refine R.toStr rfl ?_ | refine R.convStr rfl ?_ | refine R.minmax rfl ?_ | refine R.makeFunc rfl rfl ?_ | (first | refine S.lss rfl rfl (fun hlt => ?_) (fun hlt => by exfalso; omega) | refine S.lss rfl rfl (fun hlt => by exfalso; omega) (fun hlt => ?_) | refine S.lss rfl rfl (fun hlt => ?_) (fun hlt => ?_)) | (first | refine S.gtr rfl rfl (fun hlt => ?_) (fun hlt => by exfalso; omega) | refine S.gtr rfl rfl (fun hlt => by exfalso; omega) (fun hlt => ?_) | refine S.gtr rfl rfl (fun hlt => ?_) (fun hlt => ?_)) | (first | refine S.leq rfl rfl (fun hlt => ?_) (fun hlt => by exfalso; omega) | refine S.leq rfl rfl (fun hlt => by exfalso; omega) (fun hlt => ?_) | refine S.leq rfl rfl (fun hlt => ?_) (fun hlt => ?_)) | (first | refine S.geq rfl rfl (fun hlt => ?_) (fun hlt => by exfalso; omega) | refine S.geq rfl rfl (fun hlt => by exfalso; omega) (fun hlt => ?_) | refine S.geq rfl rfl (fun hlt => ?_) (fun hlt => ?_)) | (first | refine S.eqInt rfl rfl (fun hlt => ?_) (fun hlt => by exfalso; omega) | refine S.eqInt rfl rfl (fun hlt => by exfalso; omega) (fun hlt => ?_) | refine S.eqInt rfl rfl (fun hlt => ?_) (fun hlt => ?_))) | (refine S.op0 rfl ?_; first | refine S.storeS rfl rfl rfl (by rfl) rfl (by first | decide | exact Nat.le_refl _ | exact Nat.le_of_ble_eq_true rfl) ?_ | refine S.store rfl rfl (by (repeat' (first | assumption | exact AHeap.set_same _ _ _ | refine AHeap.get_fresh (by assumption) ?_ | refine AHeap.so ?_ ?_ | exact AHeap.n1 (by assumption) | exact AHeap.n2 (by assumption) | exact AHeap.ne_of (by assumption) (by assumption) | exact AHeap.n4 (by assumption) (by assumption) | exact AHeap.n5 (by assumption) | exact AHeap.n6 (by assumption) | exact AHeap.n7 (by assumption) (by assumption) | exact AHeap.n8 (by assumption) (by assumption))); first | done | fail) rfl rfl rfl (by rfl) rfl ?_) | refine S.skip rfl ?_ | refine S.skip0 rfl ?_ | refine S.seq ?_ | refine S.region ?_ | refine S.regionT ?_ | refine S.tstep ?_ | refine S.talt ?_ ?_ | exact S.tstop | refine S.tdone ?_ | refine S.condT rfl ?_ | refine S.condF rfl ?_ | refine RRun.skip ?_ | refine RRun.block ?_ | refine RRun.inBlock ?_ | refine RRun.exit rfl ?_)
  apply S.ret rr9
  case hx => repeat (first | exact ResAt.nil | apply ResAt.tmp rfl | apply ResAt.cellA rfl (by (repeat' (first | assumption | exact AHeap.set_same _ _ _ | refine AHeap.get_fresh (by assumption) ?_ | refine AHeap.so ?_ ?_ | exact AHeap.n1 (by assumption) | exact AHeap.n2 (by assumption) | exact AHeap.ne_of (by assumption) (by assumption) | exact AHeap.n4 (by assumption) (by assumption) | exact AHeap.n5 (by assumption) | exact AHeap.n6 (by assumption) | exact AHeap.n7 (by assumption) (by assumption) | exact AHeap.n8 (by assumption) (by assumption))); first | done | fail) (by rfl) | apply ResAt.cell1 rfl (by (repeat' (first | assumption | exact AHeap.set_same _ _ _ | refine AHeap.get_fresh (by assumption) ?_ | refine AHeap.so ?_ ?_ | exact AHeap.n1 (by assumption) | exact AHeap.n2 (by assumption) | exact AHeap.ne_of (by assumption) (by assumption) | exact AHeap.n4 (by assumption) (by assumption) | exact AHeap.n5 (by assumption) | exact AHeap.n6 (by assumption) | exact AHeap.n7 (by assumption) (by assumption) | exact AHeap.n8 (by assumption) (by assumption))); first | done | fail) (by rfl))
  exact ⟨rfl, rfl⟩

def exS : List UInt8 := [97, 60, 61, 49]
theorem ex_cut : cutS exS = ([⟨1, [97], 0, 0⟩, ⟨4, [60, 61], 0, 1⟩, ⟨2, [], 1, 3⟩], none) := by kernel_rfl

/-- plenum/plenumlaw19.awake -/
def r6 : RCode :=
  (.seq (.region [
    ⟨(some 0), none, .act, .mv (.const (.bool false))⟩])
  (.seq (.region [
    ⟨(some 5), none, .act, .call 8 [(.const (.string ⟨#[97, 60, 61, 49]⟩))]⟩,
    ⟨(some 4), none, .act, .mv (.tmp 5)⟩,
    ⟨(some 6), none, .act, .extract (.tmp 4) 0⟩,
    ⟨(some 7), none, .act, .extract (.tmp 4) 1⟩,
    ⟨(some 8), none, .act, .extract (.tmp 4) 2⟩,
    ⟨(some 1), none, .act, .mv (.tmp 6)⟩,
    ⟨(some 2), none, .act, .mv (.tmp 7)⟩,
    ⟨(some 3), none, .act, .mv (.tmp 8)⟩])
  (.seq (.region [
    ⟨(some 9), none, .act, .mv (.tmp 3)⟩,
    ⟨(some 10), none, .act, .eq false .int (.tmp 9) (.const (.int .i64 0))⟩,
    ⟨(some 11), none, .act, .mv (.tmp 10)⟩,
    ⟨(some 12), (some (11, true)), .act, .mv (.tmp 1)⟩,
    ⟨(some 13), (some (11, true)), .act, .len (.tmp 12)⟩,
    ⟨(some 14), (some (11, true)), .act, .eq false .int (.tmp 13) (.const (.int .i64 3))⟩,
    ⟨(some 15), none, .act, .pick (.tmp 11) (.tmp 14) (.const (.bool false))⟩,
    ⟨(some 16), none, .act, .mv (.tmp 15)⟩,
    ⟨(some 17), (some (16, true)), .act, .mv (.tmp 1)⟩,
    ⟨(some 18), (some (16, true)), .act, .indexAddr 4 (.tmp 17) (.const (.int .i64 1))⟩,
    ⟨(some 19), (some (16, true)), .act, .fieldAddr 1 (.tmp 18)⟩,
    ⟨(some 20), (some (16, true)), .act, .load false 1 (.tmp 19)⟩,
    ⟨(some 21), (some (16, true)), .act, .eq false .str (.tmp 20) (.const (.string ⟨#[60, 61]⟩))⟩,
    ⟨(some 22), none, .act, .pick (.tmp 16) (.tmp 21) (.const (.bool false))⟩,
    ⟨(some 23), none, .act, .mv (.tmp 22)⟩,
    ⟨(some 24), (some (23, true)), .act, .mv (.tmp 1)⟩,
    ⟨(some 25), (some (23, true)), .act, .indexAddr 4 (.tmp 24) (.const (.int .i64 2))⟩,
    ⟨(some 26), (some (23, true)), .act, .fieldAddr 2 (.tmp 25)⟩,
    ⟨(some 27), (some (23, true)), .act, .load false 1 (.tmp 26)⟩,
    ⟨(some 28), (some (23, true)), .act, .eq false .int (.tmp 27) (.const (.int .i64 1))⟩,
    ⟨(some 29), none, .act, .pick (.tmp 23) (.tmp 28) (.const (.bool false))⟩,
    ⟨(some 0), none, .act, .mv (.tmp 29)⟩])
  .ret)))
theorem res6 : ∃ c, Try.f6.body = some c ∧ resCode Try.prog 30 c = some r6 := ⟨_, rfl, by kernel_rfl⟩
theorem rr6 : resRes Try.prog Try.f6.results.toList = some [.tmp 0] := by kernel_rfl
theorem awake_spec (h : AHeap) : ACalls Try.prog 6 [] h (fun x h' => x = bl true ∧ h' = h) := by
  obtain ⟨c, hc1, hc2⟩ := res6
  refine ACalls.enter Try.func6 hc1 Try.ntmps6 hc2 (Nat.le_of_ble_eq_true rfl) rfl ?_
  have c8 := all_spec exS (by decide) h
  rw [ex_cut] at c8
  replace c8 : ACalls Try.prog 8 [str exS] h (fun x h' => x = .tu [.sl 4 [[i64 1, str [97], i64 0, i64 0], [i64 4, str [60, 61], i64 0, i64 1], [i64 2, str [], i64 1, i64 3]] .ro, i64 0, i64 0] ∧ h' = h) := c8
  repeat' (first | refine S.nilK ?_ | (refine S.op rfl ?_; first | refine R.callQ (by decide) rfl c8 ?_ | refine R.indexAddr rfl rfl (by decide) rfl ?_ | refine S.eqSB (a := [60, 61]) (b := [60, 61]) (r := true) rfl rfl rfl ?_ | refine R.mv rfl ?_ | refine R.fieldAddr rfl ?_ | refine R.fieldAddrR rfl ?_ | refine R.nilCheck rfl ?_ | refine R.nilCheckR rfl ?_ | refine R.loadR rfl rfl ?_ | refine R.load (by decide) rfl (by (repeat' (first | assumption | exact AHeap.set_same _ _ _ | refine AHeap.get_fresh (by assumption) ?_ | refine AHeap.so ?_ ?_ | exact AHeap.n1 (by assumption) | exact AHeap.n2 (by assumption) | exact AHeap.ne_of (by assumption) (by assumption) | exact AHeap.n4 (by assumption) (by assumption) | exact AHeap.n5 (by assumption) | exact AHeap.n6 (by assumption) | exact AHeap.n7 (by assumption) (by assumption) | exact AHeap.n8 (by assumption) (by assumption))); first | done | fail) rfl ?_ | refine S.addI rfl rfl (by omega) ?_ | refine S.subI rfl rfl (by omega) ?_ | refine S.addU rfl rfl ?_ | refine S.subU rfl rfl ?_ | refine S.addUc rfl (by decide) ?_ | refine S.subUc rfl (by decide) ?_ | refine S.arith rfl rfl rfl ?_ | refine R.pickT rfl rfl ?_ | refine R.pickF rfl rfl ?_ | refine R.len rfl ?_ | refine R.lenA rfl ?_ | refine R.lenStr rfl ?_ | refine S.convIU rfl (by omega) ?_ | refine S.convUI rfl (by omega) ?_ | refine R.convInt rfl ?_ | refine R.not rfl ?_ | refine R.eqPtrNil rfl rfl ?_ | refine R.extract rfl rfl ?_ | refine R.field rfl rfl ?_ | refine R.alloc rfl (fun b hb => ?_) | refine R.box rfl rfl rfl (fun b hb => ?_) | refine R.build rfl rfl ?_ | refine R.buildSl rfl rfl rfl (by decide) ?_ | refine R.toStr rfl ?_ | refine R.convStr rfl ?_ | refine R.minmax rfl ?_ | refine R.makeFunc rfl rfl ?_ | (first | refine S.lss rfl rfl (fun hlt => ?_) (fun hlt => by exfalso; omega) | refine S.lss rfl rfl (fun hlt => by exfalso; omega) (fun hlt => ?_) | refine S.lss rfl rfl (fun hlt => ?_) (fun hlt => ?_)) | (first | refine S.gtr rfl rfl (fun hlt => ?_) (fun hlt => by exfalso; omega) | refine S.gtr rfl rfl (fun hlt => by exfalso; omega) (fun hlt => ?_) | refine S.gtr rfl rfl (fun hlt => ?_) (fun hlt => ?_)) | (first | refine S.leq rfl rfl (fun hlt => ?_) (fun hlt => by exfalso; omega) | refine S.leq rfl rfl (fun hlt => by exfalso; omega) (fun hlt => ?_) | refine S.leq rfl rfl (fun hlt => ?_) (fun hlt => ?_)) | (first | refine S.geq rfl rfl (fun hlt => ?_) (fun hlt => by exfalso; omega) | refine S.geq rfl rfl (fun hlt => by exfalso; omega) (fun hlt => ?_) | refine S.geq rfl rfl (fun hlt => ?_) (fun hlt => ?_)) | (first | refine S.eqInt rfl rfl (fun hlt => ?_) (fun hlt => by exfalso; omega) | refine S.eqInt rfl rfl (fun hlt => by exfalso; omega) (fun hlt => ?_) | refine S.eqInt rfl rfl (fun hlt => ?_) (fun hlt => ?_))) | (refine S.op0 rfl ?_; first | refine S.storeS rfl rfl rfl (by rfl) rfl (by first | decide | exact Nat.le_refl _ | exact Nat.le_of_ble_eq_true rfl) ?_ | refine S.store rfl rfl (by (repeat' (first | assumption | exact AHeap.set_same _ _ _ | refine AHeap.get_fresh (by assumption) ?_ | refine AHeap.so ?_ ?_ | exact AHeap.n1 (by assumption) | exact AHeap.n2 (by assumption) | exact AHeap.ne_of (by assumption) (by assumption) | exact AHeap.n4 (by assumption) (by assumption) | exact AHeap.n5 (by assumption) | exact AHeap.n6 (by assumption) | exact AHeap.n7 (by assumption) (by assumption) | exact AHeap.n8 (by assumption) (by assumption))); first | done | fail) rfl rfl rfl (by rfl) rfl ?_) | refine S.skip rfl ?_ | refine S.skip0 rfl ?_ | refine S.seq ?_ | refine S.region ?_ | refine S.regionT ?_ | refine S.tstep ?_ | refine S.talt ?_ ?_ | exact S.tstop | refine S.tdone ?_ | refine S.condT rfl ?_ | refine S.condF rfl ?_ | refine RRun.skip ?_ | refine RRun.block ?_ | refine RRun.inBlock ?_ | refine RRun.exit rfl ?_)
  · apply S.ret rr6
    case hx => repeat (first | exact ResAt.nil | apply ResAt.tmp rfl | apply ResAt.cellA rfl (by (repeat' (first | assumption | exact AHeap.set_same _ _ _ | refine AHeap.get_fresh (by assumption) ?_ | refine AHeap.so ?_ ?_ | exact AHeap.n1 (by assumption) | exact AHeap.n2 (by assumption) | exact AHeap.ne_of (by assumption) (by assumption) | exact AHeap.n4 (by assumption) (by assumption) | exact AHeap.n5 (by assumption) | exact AHeap.n6 (by assumption) | exact AHeap.n7 (by assumption) (by assumption) | exact AHeap.n8 (by assumption) (by assumption))); first | done | fail) (by rfl) | apply ResAt.cell1 rfl (by (repeat' (first | assumption | exact AHeap.set_same _ _ _ | refine AHeap.get_fresh (by assumption) ?_ | refine AHeap.so ?_ ?_ | exact AHeap.n1 (by assumption) | exact AHeap.n2 (by assumption) | exact AHeap.ne_of (by assumption) (by assumption) | exact AHeap.n4 (by assumption) (by assumption) | exact AHeap.n5 (by assumption) | exact AHeap.n6 (by assumption) | exact AHeap.n7 (by assumption) (by assumption) | exact AHeap.n8 (by assumption) (by assumption))); first | done | fail) (by rfl))
    exact ⟨rfl, rfl⟩
  · exact absurd rfl hlt

end Go.Proofs.Ytcjcmegkfplnkaa
