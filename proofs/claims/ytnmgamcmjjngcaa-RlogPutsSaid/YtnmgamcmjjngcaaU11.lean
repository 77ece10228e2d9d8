import Derived.Test.YtnmgamcmjjngcaaU1
set_option linter.unusedVariables false
set_option linter.unusedSimpArgs false
namespace Go.Proofs.Ytnmgamcmjjngcaa
open Go.Av

def r47l0 : RCode :=
  (.seq (.region [
    ⟨(some 14), none, .act, .bin .lss (.tmp 13) (.tmp 12)⟩])
  (.seq (.cond (.tmp 14)
   .skip
   (.exit 0))
  (.seq (.block 1
   (.seq (.region [
     ⟨(some 15), none, .act, .mv (.tmp 13)⟩,
     ⟨(some 5), none, .act, .mv (.tmp 15)⟩])
   (.seq (.region [
     ⟨(some 16), none, .pure, .mv (.tmp 0)⟩,
     ⟨(some 17), none, .pure, .mv (.tmp 5)⟩,
     ⟨(some 18), none, .pure, .indexAddr 1 (.tmp 16) (.tmp 17)⟩,
     ⟨(some 19), none, .read, .load false 1 (.tmp 18)⟩,
     ⟨(some 20), none, .pure, .mv (.tmp 1)⟩,
     ⟨(some 21), none, .pure, .mv (.tmp 5)⟩,
     ⟨(some 22), none, .pure, .indexAddr 1 (.tmp 20) (.tmp 21)⟩,
     ⟨(some 23), none, .read, .load false 1 (.tmp 22)⟩,
     ⟨(some 24), none, .pure, .eq true .int (.tmp 19) (.tmp 23)⟩])
   (.cond (.tmp 24)
    (.seq (.region [
      ⟨(some 4), none, .act, .mv (.const (.bool false))⟩])
    .ret)
    .skip))))
  (.region [
    ⟨(some 25), none, .act, .bin .add (.tmp 13) (.const (.int .i64 1))⟩,
    ⟨(some 13), none, .act, .mv (.tmp 25)⟩]))))
/-- plenum/plenumref06.SameNumbers -/
def r47 : RCode :=
  (.seq (.region [
    ⟨(some 4), none, .act, .mv (.const (.bool false))⟩])
  (.seq (.seq (.region [
    ⟨(some 6), none, .act, .mv (.tmp 0)⟩,
    ⟨(some 7), none, .act, .len (.tmp 6)⟩,
    ⟨(some 8), none, .act, .mv (.tmp 1)⟩,
    ⟨(some 9), none, .act, .len (.tmp 8)⟩,
    ⟨(some 10), none, .act, .eq true .int (.tmp 7) (.tmp 9)⟩])
  (.cond (.tmp 10)
   (.seq (.region [
     ⟨(some 4), none, .act, .mv (.const (.bool false))⟩])
   .ret)
   .skip))
  (.seq (.seq (.region [
    ⟨(some 11), none, .act, .mv (.tmp 0)⟩,
    ⟨(some 12), none, .act, .len (.tmp 11)⟩,
    ⟨(some 13), none, .act, .mv (.const (.int .i64 0))⟩])
  (.block 0
   (.loop r47l0)))
  (.seq (.region [
    ⟨(some 4), none, .act, .mv (.const (.bool true))⟩])
  .ret))))
theorem res47 : ∃ c, Try.f47.body = some c ∧ resCode Try.prog 26 c = some r47 := ⟨_, rfl, by kernel_rfl⟩
theorem rr47 : resRes Try.prog Try.f47.results.toList = some [.tmp 4] := by kernel_rfl
theorem numbers_loop (l : List UInt64) (hl : l.length ≤ 9223372036854775806) (h : AHeap) (k : List RT) (Q : AV → AHeap → Prop)
    (hk : RRun Try.prog Try.f47 26 k (Env.get []) h Q) (m : Nat) :
    ∀ (i : Nat), i + m = l.length →
      RRun Try.prog Try.f47 26 (.inLoop r47l0 :: .inBlock 0 :: k) (Env.get [(13, i64 i), (12, i64 l.length), (0, u64s l), (1, u64s l)]) h Q := by
  induction m with
  | zero =>
    intro i hi
    refine RRun.inLoop ?_
    repeat' (first | refine S.nilK ?_ | (refine S.op rfl ?_; first | refine R.mv rfl ?_ | refine R.loadR rfl rfl ?_ | refine R.load (by decide) rfl (by (repeat' (first | assumption | exact AHeap.set_same _ _ _ | refine AHeap.get_fresh ‹_› ?_ | refine AHeap.so ?_ ?_ | exact AHeap.n1 ‹_› | exact AHeap.n2 ‹_› | exact AHeap.ne_of ‹_› ‹_› | exact AHeap.n4 ‹_› ‹_› | exact AHeap.n5 ‹_› | exact AHeap.n6 ‹_› | exact AHeap.n7 ‹_› ‹_› | exact AHeap.n8 ‹_› ‹_›)); first | done | fail) rfl ?_ | refine S.addI rfl rfl (by omega) ?_ | refine S.addU rfl rfl ?_ | refine S.addUc rfl (by decide) ?_ | refine R.len rfl ?_ | refine R.lenA rfl ?_ | refine R.lenStr rfl ?_ | refine R.eqPtrNil rfl rfl ?_ | ((first | refine S.lss rfl rfl ?_ ?_ | refine S.eqInt rfl rfl ?_ ?_) <;> intro hlt <;> try (exfalso; omega))) | refine S.skip rfl ?_ | refine S.skip0 rfl ?_ | refine S.seq ?_ | refine S.region ?_ | refine S.condT rfl ?_ | refine S.condF rfl ?_ | refine RRun.skip ?_ | refine RRun.block ?_ | refine RRun.inBlock ?_ | refine RRun.exit rfl ?_)
    exact S.keep [] rfl hk
  | succ m ih =>
    intro i hi
    have hie : i < l.length := by omega
    have h1 : (l.map fun x => [u64 x])[((i : Nat) : Int).toNat]? = some [u64 l[i]] := by simp [hie]
    refine RRun.inLoop ?_
    repeat' (first | refine S.nilK ?_ | (refine S.op rfl ?_; first | refine R.indexAddr rfl rfl (by omega) h1 ?_ | refine S.eqIntSame rfl rfl ?_ | refine R.mv rfl ?_ | refine R.loadR rfl rfl ?_ | refine R.load (by decide) rfl (by (repeat' (first | assumption | exact AHeap.set_same _ _ _ | refine AHeap.get_fresh ‹_› ?_ | refine AHeap.so ?_ ?_ | exact AHeap.n1 ‹_› | exact AHeap.n2 ‹_› | exact AHeap.ne_of ‹_› ‹_› | exact AHeap.n4 ‹_› ‹_› | exact AHeap.n5 ‹_› | exact AHeap.n6 ‹_› | exact AHeap.n7 ‹_› ‹_› | exact AHeap.n8 ‹_› ‹_›)); first | done | fail) rfl ?_ | refine S.addI rfl rfl (by omega) ?_ | refine S.addU rfl rfl ?_ | refine S.addUc rfl (by decide) ?_ | refine R.len rfl ?_ | refine R.lenA rfl ?_ | refine R.lenStr rfl ?_ | refine R.eqPtrNil rfl rfl ?_ | ((first | refine S.lss rfl rfl ?_ ?_ | refine S.eqInt rfl rfl ?_ ?_) <;> intro hlt <;> try (exfalso; omega))) | refine S.skip rfl ?_ | refine S.skip0 rfl ?_ | refine S.seq ?_ | refine S.region ?_ | refine S.condT rfl ?_ | refine S.condF rfl ?_ | refine RRun.skip ?_ | refine RRun.block ?_ | refine RRun.inBlock ?_ | refine RRun.exit rfl ?_)
    rw [show ((i : Int) + 1) = ((i + 1 : Nat) : Int) by omega]
    exact S.keep [13, 12, 0, 1] rfl (ih (i + 1) (by omega))

/-- Two lists of numbers that are the same. -/
theorem numbers_spec (l : List UInt64) (hl : l.length ≤ 9223372036854775806) (h : AHeap) : ACalls Try.prog 47 [u64s l, u64s l] h (fun x h' => x = bl true ∧ h' = h) := by
  have hlen : (l.map fun x => [u64 x]).length = l.length := by simp
  obtain ⟨c, hc1, hc2⟩ := res47
  refine ACalls.enter Try.func47 hc1 Try.ntmps47 hc2 (Nat.le_of_ble_eq_true rfl) rfl ?_
  repeat' (first | refine S.nilK ?_ | (refine S.op rfl ?_; first | refine S.eqIntSame rfl rfl ?_ | refine R.mv rfl ?_ | refine R.loadR rfl rfl ?_ | refine R.load (by decide) rfl (by (repeat' (first | assumption | exact AHeap.set_same _ _ _ | refine AHeap.get_fresh ‹_› ?_ | refine AHeap.so ?_ ?_ | exact AHeap.n1 ‹_› | exact AHeap.n2 ‹_› | exact AHeap.ne_of ‹_› ‹_› | exact AHeap.n4 ‹_› ‹_› | exact AHeap.n5 ‹_› | exact AHeap.n6 ‹_› | exact AHeap.n7 ‹_› ‹_› | exact AHeap.n8 ‹_› ‹_›)); first | done | fail) rfl ?_ | refine S.addI rfl rfl (by omega) ?_ | refine S.addU rfl rfl ?_ | refine S.addUc rfl (by decide) ?_ | refine R.len rfl ?_ | refine R.lenA rfl ?_ | refine R.lenStr rfl ?_ | refine R.eqPtrNil rfl rfl ?_ | ((first | refine S.lss rfl rfl ?_ ?_ | refine S.eqInt rfl rfl ?_ ?_) <;> intro hlt <;> try (exfalso; omega))) | refine S.skip rfl ?_ | refine S.skip0 rfl ?_ | refine S.seq ?_ | refine S.region ?_ | refine S.condT rfl ?_ | refine S.condF rfl ?_ | refine RRun.skip ?_ | refine RRun.block ?_ | refine RRun.inBlock ?_ | refine RRun.exit rfl ?_)
  rw [hlen]
  refine RRun.loopIn (S.keep [13, 12, 0, 1] rfl ?_)
  refine numbers_loop l hl h _ _ ?_ l.length 0 (by omega)
  repeat' (first | refine S.nilK ?_ | (refine S.op rfl ?_; first | refine R.mv rfl ?_ | refine R.loadR rfl rfl ?_ | refine R.load (by decide) rfl (by (repeat' (first | assumption | exact AHeap.set_same _ _ _ | refine AHeap.get_fresh ‹_› ?_ | refine AHeap.so ?_ ?_ | exact AHeap.n1 ‹_› | exact AHeap.n2 ‹_› | exact AHeap.ne_of ‹_› ‹_› | exact AHeap.n4 ‹_› ‹_› | exact AHeap.n5 ‹_› | exact AHeap.n6 ‹_› | exact AHeap.n7 ‹_› ‹_› | exact AHeap.n8 ‹_› ‹_›)); first | done | fail) rfl ?_ | refine S.addI rfl rfl (by omega) ?_ | refine S.addU rfl rfl ?_ | refine S.addUc rfl (by decide) ?_ | refine R.len rfl ?_ | refine R.lenA rfl ?_ | refine R.lenStr rfl ?_ | refine R.eqPtrNil rfl rfl ?_ | ((first | refine S.lss rfl rfl ?_ ?_ | refine S.eqInt rfl rfl ?_ ?_) <;> intro hlt <;> try (exfalso; omega))) | refine S.skip rfl ?_ | refine S.skip0 rfl ?_ | refine S.seq ?_ | refine S.region ?_ | refine S.condT rfl ?_ | refine S.condF rfl ?_ | refine RRun.skip ?_ | refine RRun.block ?_ | refine RRun.inBlock ?_ | refine RRun.exit rfl ?_)
  apply S.ret rr47
  case hx => repeat (first | exact ResAt.nil | apply ResAt.tmp rfl | apply ResAt.cellA rfl (by (repeat' (first | assumption | exact AHeap.set_same _ _ _ | refine AHeap.get_fresh ‹_› ?_ | refine AHeap.so ?_ ?_ | exact AHeap.n1 ‹_› | exact AHeap.n2 ‹_› | exact AHeap.ne_of ‹_› ‹_› | exact AHeap.n4 ‹_› ‹_› | exact AHeap.n5 ‹_› | exact AHeap.n6 ‹_› | exact AHeap.n7 ‹_› ‹_› | exact AHeap.n8 ‹_› ‹_›)); first | done | fail) (by rfl) | apply ResAt.cell1 rfl (by (repeat' (first | assumption | exact AHeap.set_same _ _ _ | refine AHeap.get_fresh ‹_› ?_ | refine AHeap.so ?_ ?_ | exact AHeap.n1 ‹_› | exact AHeap.n2 ‹_› | exact AHeap.ne_of ‹_› ‹_› | exact AHeap.n4 ‹_› ‹_› | exact AHeap.n5 ‹_› | exact AHeap.n6 ‹_› | exact AHeap.n7 ‹_› ‹_› | exact AHeap.n8 ‹_› ‹_›)); first | done | fail) (by rfl))
  exact ⟨rfl, rfl⟩

/-- plenum/plenumref06.SameSnap -/
def r60 : RCode :=
  (.seq (.region [
    ⟨(some 2), none, .act, .box (.tmp 0)⟩,
    ⟨(some 3), none, .act, .box (.tmp 1)⟩,
    ⟨(some 4), none, .act, .mv (.const (.bool false))⟩])
  (.seq (.region [
    ⟨(some 5), none, .act, .fieldAddr 0 (.tmp 2)⟩,
    ⟨(some 6), none, .act, .load false 1 (.tmp 5)⟩,
    ⟨(some 7), none, .act, .fieldAddr 0 (.tmp 3)⟩,
    ⟨(some 8), none, .act, .load false 1 (.tmp 7)⟩,
    ⟨(some 9), none, .act, .eq false .int (.tmp 6) (.tmp 8)⟩,
    ⟨(some 10), none, .act, .mv (.tmp 9)⟩,
    ⟨(some 11), (some (10, true)), .act, .fieldAddr 1 (.tmp 2)⟩,
    ⟨(some 12), (some (10, true)), .act, .load false 1 (.tmp 11)⟩,
    ⟨(some 13), (some (10, true)), .act, .fieldAddr 1 (.tmp 3)⟩,
    ⟨(some 14), (some (10, true)), .act, .load false 1 (.tmp 13)⟩,
    ⟨(some 15), (some (10, true)), .act, .eq false .int (.tmp 12) (.tmp 14)⟩,
    ⟨(some 16), none, .act, .pick (.tmp 10) (.tmp 15) (.const (.bool false))⟩,
    ⟨(some 17), none, .act, .mv (.tmp 16)⟩,
    ⟨(some 18), (some (17, true)), .act, .fieldAddr 2 (.tmp 2)⟩,
    ⟨(some 19), (some (17, true)), .act, .load false 1 (.tmp 18)⟩,
    ⟨(some 20), (some (17, true)), .act, .fieldAddr 2 (.tmp 3)⟩,
    ⟨(some 21), (some (17, true)), .act, .load false 1 (.tmp 20)⟩,
    ⟨(some 22), (some (17, true)), .act, .call 47 [(.tmp 19), (.tmp 21)]⟩,
    ⟨(some 23), none, .act, .pick (.tmp 17) (.tmp 22) (.const (.bool false))⟩,
    ⟨(some 24), none, .act, .mv (.tmp 23)⟩,
    ⟨(some 25), (some (24, true)), .act, .fieldAddr 3 (.tmp 2)⟩,
    ⟨(some 26), (some (24, true)), .act, .load false 1 (.tmp 25)⟩,
    ⟨(some 27), (some (24, true)), .act, .toStr (.tmp 26)⟩,
    ⟨(some 28), (some (24, true)), .act, .fieldAddr 3 (.tmp 3)⟩,
    ⟨(some 29), (some (24, true)), .act, .load false 1 (.tmp 28)⟩,
    ⟨(some 30), (some (24, true)), .act, .toStr (.tmp 29)⟩,
    ⟨(some 31), (some (24, true)), .act, .eq false .str (.tmp 27) (.tmp 30)⟩,
    ⟨(some 32), none, .act, .pick (.tmp 24) (.tmp 31) (.const (.bool false))⟩,
    ⟨(some 4), none, .act, .mv (.tmp 32)⟩])
  .ret))
theorem res60 : ∃ c, Try.f60.body = some c ∧ resCode Try.prog 33 c = some r60 := ⟨_, rfl, by kernel_rfl⟩
theorem rr60 : resRes Try.prog Try.f60.results.toList = some [.tmp 4] := by kernel_rfl
/-- Two snapshots that are the same. -/
theorem sameSnap_spec (s : Snap) (hl : s.members.length ≤ 9223372036854775806) (h : AHeap) : ACalls Try.prog 60 [.ag s.cells, .ag s.cells] h (fun x h' => x = bl true ∧ h' = h) := by
  obtain ⟨c, hc1, hc2⟩ := res60
  refine ACalls.weak (ACalls.enter Try.func60 hc1 Try.ntmps60 hc2 (Nat.le_of_ble_eq_true rfl) rfl ?_)
  repeat' (first | refine S.nilK ?_ | (refine S.op rfl ?_; first | refine S.eqIntSame rfl rfl ?_ | refine S.eqStrSame rfl rfl ?_ | refine R.callQ (by decide) rfl (numbers_spec _ hl _) ?_ | refine R.mv rfl ?_ | refine R.fieldAddr rfl ?_ | refine R.fieldAddrR rfl ?_ | refine R.loadR rfl rfl ?_ | refine R.load (by decide) rfl (by (repeat' (first | assumption | exact AHeap.set_same _ _ _ | refine AHeap.get_fresh ‹_› ?_ | refine AHeap.so ?_ ?_ | exact AHeap.n1 ‹_› | exact AHeap.n2 ‹_› | exact AHeap.ne_of ‹_› ‹_› | exact AHeap.n4 ‹_› ‹_› | exact AHeap.n5 ‹_› | exact AHeap.n6 ‹_› | exact AHeap.n7 ‹_› ‹_› | exact AHeap.n8 ‹_› ‹_›)); first | done | fail) rfl ?_ | refine R.pickT rfl rfl ?_ | refine R.pickF rfl rfl ?_ | refine R.eqPtrNil rfl rfl ?_ | refine R.box rfl rfl rfl (fun b hb => ?_) | refine R.toStr rfl ?_ | ((first | refine S.eqInt rfl rfl ?_ ?_) <;> intro hlt <;> try (exfalso; omega))) | refine S.skip rfl ?_ | refine S.skip0 rfl ?_ | refine S.seq ?_ | refine S.region ?_ | refine S.condT rfl ?_ | refine S.condF rfl ?_ | refine RRun.skip ?_ | refine RRun.block ?_ | refine RRun.inBlock ?_ | refine RRun.exit rfl ?_)
  apply S.ret rr60
  case hx => repeat (first | exact ResAt.nil | apply ResAt.tmp rfl | apply ResAt.cellA rfl (by (repeat' (first | assumption | exact AHeap.set_same _ _ _ | refine AHeap.get_fresh ‹_› ?_ | refine AHeap.so ?_ ?_ | exact AHeap.n1 ‹_› | exact AHeap.n2 ‹_› | exact AHeap.ne_of ‹_› ‹_› | exact AHeap.n4 ‹_› ‹_› | exact AHeap.n5 ‹_› | exact AHeap.n6 ‹_› | exact AHeap.n7 ‹_› ‹_› | exact AHeap.n8 ‹_› ‹_›)); first | done | fail) (by rfl) | apply ResAt.cell1 rfl (by (repeat' (first | assumption | exact AHeap.set_same _ _ _ | refine AHeap.get_fresh ‹_› ?_ | refine AHeap.so ?_ ?_ | exact AHeap.n1 ‹_› | exact AHeap.n2 ‹_› | exact AHeap.ne_of ‹_› ‹_› | exact AHeap.n4 ‹_› ‹_› | exact AHeap.n5 ‹_› | exact AHeap.n6 ‹_› | exact AHeap.n7 ‹_› ‹_› | exact AHeap.n8 ‹_› ‹_›)); first | done | fail) (by rfl))
  exact ⟨_, _, .refl _, (by repeat (first | exact AHeap.le.refl _ | refine AHeap.le.set ?_ _ (by (repeat' (first | assumption | exact AHeap.z1 ‹_› | exact AHeap.z2 ‹_› | exact AHeap.z3 ‹_› | refine AHeap.so ?_ ?_ | exact AHeap.n1 ‹_› | exact AHeap.n2 ‹_› | exact AHeap.ne_of ‹_› ‹_› | exact AHeap.n4 ‹_› ‹_› | exact AHeap.n5 ‹_› | exact AHeap.n6 ‹_› | exact AHeap.n7 ‹_› ‹_› | exact AHeap.n8 ‹_› ‹_›)); first | done | fail) | refine AHeap.le.both ?_ _ _)), rfl, rfl⟩

end Go.Proofs.Ytnmgamcmjjngcaa
