import Derived.Test.YtnmgamcmjjngcaaM6
set_option linter.unusedVariables false
set_option linter.unusedSimpArgs false
namespace Go.Proofs.Ytnmgamcmjjngcaa
open Go.Av
open Go.Sort (swp PermIn SortedIn Below SWO scanUp scanDown)


/-! ### partitionEqual -/
def r114l1 : RCode :=
  (.seq (.seq (.region [
    ⟨(some 29), none, .pure, .mv (.tmp 9)⟩,
    ⟨(some 30), none, .pure, .mv (.tmp 10)⟩,
    ⟨(some 31), none, .pure, .bin .leq (.tmp 29) (.tmp 30)⟩,
    ⟨(some 32), none, .pure, .mv (.tmp 31)⟩,
    ⟨(some 33), (some (32, true)), .pure, .mv (.tmp 0)⟩,
    ⟨(some 34), (some (32, true)), .pure, .mv (.tmp 1)⟩,
    ⟨(some 35), (some (32, true)), .pure, .indexAddr 1 (.tmp 33) (.tmp 34)⟩,
    ⟨(some 36), (some (32, true)), .read, .load false 1 (.tmp 35)⟩,
    ⟨(some 37), (some (32, true)), .pure, .mv (.tmp 0)⟩,
    ⟨(some 38), (some (32, true)), .pure, .mv (.tmp 9)⟩,
    ⟨(some 39), (some (32, true)), .pure, .indexAddr 1 (.tmp 37) (.tmp 38)⟩,
    ⟨(some 40), (some (32, true)), .read, .load false 1 (.tmp 39)⟩,
    ⟨(some 41), (some (32, true)), .act, .call 113 [(.tmp 36), (.tmp 40)]⟩,
    ⟨(some 42), (some (32, true)), .pure, .un .not (.tmp 41)⟩,
    ⟨(some 43), none, .pure, .pick (.tmp 32) (.tmp 42) (.const (.bool false))⟩])
  (.cond (.tmp 43)
   .skip
   (.exit 2)))
  (.block 3
   (.region [
     ⟨(some 44), none, .act, .mv (.tmp 9)⟩,
     ⟨(some 45), none, .act, .bin .add (.tmp 44) (.const (.int .i64 1))⟩,
     ⟨(some 9), none, .act, .mv (.tmp 45)⟩])))
def r114l2 : RCode :=
  (.seq (.seq (.region [
    ⟨(some 46), none, .pure, .mv (.tmp 9)⟩,
    ⟨(some 47), none, .pure, .mv (.tmp 10)⟩,
    ⟨(some 48), none, .pure, .bin .leq (.tmp 46) (.tmp 47)⟩,
    ⟨(some 49), none, .pure, .mv (.tmp 48)⟩,
    ⟨(some 50), (some (49, true)), .pure, .mv (.tmp 0)⟩,
    ⟨(some 51), (some (49, true)), .pure, .mv (.tmp 1)⟩,
    ⟨(some 52), (some (49, true)), .pure, .indexAddr 1 (.tmp 50) (.tmp 51)⟩,
    ⟨(some 53), (some (49, true)), .read, .load false 1 (.tmp 52)⟩,
    ⟨(some 54), (some (49, true)), .pure, .mv (.tmp 0)⟩,
    ⟨(some 55), (some (49, true)), .pure, .mv (.tmp 10)⟩,
    ⟨(some 56), (some (49, true)), .pure, .indexAddr 1 (.tmp 54) (.tmp 55)⟩,
    ⟨(some 57), (some (49, true)), .read, .load false 1 (.tmp 56)⟩,
    ⟨(some 58), (some (49, true)), .act, .call 113 [(.tmp 53), (.tmp 57)]⟩,
    ⟨(some 59), none, .pure, .pick (.tmp 49) (.tmp 58) (.const (.bool false))⟩])
  (.cond (.tmp 59)
   .skip
   (.exit 4)))
  (.block 5
   (.region [
     ⟨(some 60), none, .act, .mv (.tmp 10)⟩,
     ⟨(some 61), none, .act, .bin .sub (.tmp 60) (.const (.int .i64 1))⟩,
     ⟨(some 10), none, .act, .mv (.tmp 61)⟩])))
def r114l0 : RCode :=
  (.block 1
   (.seq (.block 2
    (.loop r114l1))
   (.seq (.block 4
    (.loop r114l2))
   (.seq (.seq (.region [
     ⟨(some 62), none, .act, .mv (.tmp 9)⟩,
     ⟨(some 63), none, .act, .mv (.tmp 10)⟩,
     ⟨(some 64), none, .act, .bin .gtr (.tmp 62) (.tmp 63)⟩])
   (.cond (.tmp 64)
    (.exit 0)
    .skip))
   (.seq (.region [
     ⟨(some 65), none, .pure, .mv (.tmp 0)⟩,
     ⟨(some 66), none, .pure, .mv (.tmp 9)⟩,
     ⟨(some 67), none, .pure, .mv (.tmp 0)⟩,
     ⟨(some 68), none, .pure, .mv (.tmp 10)⟩,
     ⟨(some 69), none, .pure, .mv (.tmp 0)⟩,
     ⟨(some 70), none, .pure, .mv (.tmp 10)⟩,
     ⟨(some 71), none, .pure, .indexAddr 1 (.tmp 69) (.tmp 70)⟩,
     ⟨(some 72), none, .read, .load false 1 (.tmp 71)⟩,
     ⟨(some 73), none, .pure, .mv (.tmp 0)⟩,
     ⟨(some 74), none, .pure, .mv (.tmp 9)⟩,
     ⟨(some 75), none, .pure, .indexAddr 1 (.tmp 73) (.tmp 74)⟩,
     ⟨(some 76), none, .read, .load false 1 (.tmp 75)⟩,
     ⟨(some 77), none, .pure, .indexAddr 1 (.tmp 65) (.tmp 66)⟩,
     ⟨none, none, .act, .store 1 (.tmp 77) (.tmp 72)⟩,
     ⟨(some 78), none, .pure, .indexAddr 1 (.tmp 67) (.tmp 68)⟩,
     ⟨none, none, .act, .store 1 (.tmp 78) (.tmp 76)⟩])
   (.seq (.region [
     ⟨(some 79), none, .act, .mv (.tmp 9)⟩,
     ⟨(some 80), none, .act, .bin .add (.tmp 79) (.const (.int .i64 1))⟩,
     ⟨(some 9), none, .act, .mv (.tmp 80)⟩])
   (.region [
     ⟨(some 81), none, .act, .mv (.tmp 10)⟩,
     ⟨(some 82), none, .act, .bin .sub (.tmp 81) (.const (.int .i64 1))⟩,
     ⟨(some 10), none, .act, .mv (.tmp 82)⟩])))))))
/-- slices.partitionEqualOrdered[uint64] -/
def r114 : RCode :=
  (.seq (.region [
    ⟨(some 8), none, .act, .mv (.const (.int .i64 0))⟩])
  (.seq (.region [
    ⟨(some 11), none, .pure, .mv (.tmp 0)⟩,
    ⟨(some 12), none, .pure, .mv (.tmp 1)⟩,
    ⟨(some 13), none, .pure, .mv (.tmp 0)⟩,
    ⟨(some 14), none, .pure, .mv (.tmp 3)⟩,
    ⟨(some 15), none, .pure, .mv (.tmp 0)⟩,
    ⟨(some 16), none, .pure, .mv (.tmp 3)⟩,
    ⟨(some 17), none, .pure, .indexAddr 1 (.tmp 15) (.tmp 16)⟩,
    ⟨(some 18), none, .read, .load false 1 (.tmp 17)⟩,
    ⟨(some 19), none, .pure, .mv (.tmp 0)⟩,
    ⟨(some 20), none, .pure, .mv (.tmp 1)⟩,
    ⟨(some 21), none, .pure, .indexAddr 1 (.tmp 19) (.tmp 20)⟩,
    ⟨(some 22), none, .read, .load false 1 (.tmp 21)⟩,
    ⟨(some 23), none, .pure, .indexAddr 1 (.tmp 11) (.tmp 12)⟩,
    ⟨none, none, .act, .store 1 (.tmp 23) (.tmp 18)⟩,
    ⟨(some 24), none, .pure, .indexAddr 1 (.tmp 13) (.tmp 14)⟩,
    ⟨none, none, .act, .store 1 (.tmp 24) (.tmp 22)⟩])
  (.seq (.region [
    ⟨(some 25), none, .act, .mv (.tmp 1)⟩,
    ⟨(some 26), none, .act, .bin .add (.tmp 25) (.const (.int .i64 1))⟩,
    ⟨(some 27), none, .act, .mv (.tmp 2)⟩,
    ⟨(some 28), none, .act, .bin .sub (.tmp 27) (.const (.int .i64 1))⟩,
    ⟨(some 9), none, .act, .mv (.tmp 26)⟩,
    ⟨(some 10), none, .act, .mv (.tmp 28)⟩])
  (.seq (.block 0
   (.loop r114l0))
  (.seq (.region [
    ⟨(some 83), none, .act, .mv (.tmp 9)⟩,
    ⟨(some 8), none, .act, .mv (.tmp 83)⟩])
  .ret)))))
theorem res114 : ∃ c, Try.f114.body = some c ∧ resCode Try.prog 84 c = some r114 := ⟨_, rfl, by kernel_rfl⟩
theorem rr114 : resRes Try.prog Try.f114.results.toList = some [.tmp 8] := by kernel_rfl

theorem scanUp_e (q cap n a j : Nat) (sp : List AV) (h : AHeap) (hn : n ≤ 1000000) (ha : a < n) (hj : j < n) (d : Array SE) (hd : d.size = n) (k : List RT) (Q : AV → AHeap → Prop) : ∀ (f i : Nat), j + 1 ≤ i + f → i ≤ n →
    RRun Try.prog Try.f114 84 k (Env.get [(0, slAt q 0 n cap), (1, i64 a), (9, i64 (scanUp (fun x => !ltE d[a]! x) d j i : Nat)), (10, i64 j)]) (HL h q d.toList sp) Q →
    RRun Try.prog Try.f114 84 (.inLoop r114l1 :: .inBlock 2 :: k) (Env.get [(0, slAt q 0 n cap), (1, i64 a), (9, i64 i), (10, i64 j)]) (HL h q d.toList sp) Q := by
  intro f
  induction f with
  | zero =>
    intro i hf hin hk
    rw [scanUp_stop (by omega)] at hk
    refine RRun.inLoop ?_
    repeat' (first | (refine S.op0 rfl (S.stE rfl rfl rfl (by simp only [List.length_set, Array.length_toList]; omega) ?_)) | refine S.nilK ?_ | (refine S.op rfl ?_; first | refine S.addNN (n := 1) rfl rfl (by omega) ?_ | refine S.addNN rfl rfl (by omega) ?_ | refine S.subNN (n := 1) rfl rfl (by omega) (by omega) ?_ | refine S.subNN rfl rfl (by omega) (by omega) ?_ | refine S.ix rfl rfl (by omega) ?_ | refine S.ldE (by decide) rfl (by omega) ?_ | refine R.mv rfl ?_ | refine R.loadR rfl rfl ?_ | refine R.load (by decide) rfl (by first | assumption | exact AHeap.set_same _ _ _) rfl ?_ | refine S.addI rfl rfl (by omega) ?_ | refine S.subI rfl rfl (by omega) ?_ | refine S.addU rfl rfl ?_ | refine S.subU rfl rfl ?_ | refine S.addUc rfl (by decide) ?_ | refine S.subUc rfl (by decide) ?_ | refine R.pickT rfl rfl ?_ | refine R.pickF rfl rfl ?_ | refine R.not rfl ?_ | ((first | refine S.gtr rfl rfl ?_ ?_ | refine S.leq rfl rfl ?_ ?_) <;> intro hlt <;> try (exfalso; omega))) | (refine S.op0 rfl ?_; first | refine S.storeS rfl rfl rfl (by rfl) rfl (by first | decide | exact Nat.le_refl _ | exact Nat.le_of_ble_eq_true rfl) ?_ | refine S.store rfl rfl (by first | assumption | exact AHeap.set_same _ _ _) rfl rfl rfl (by rfl) rfl ?_) | refine S.skip rfl ?_ | refine S.skip0 rfl ?_ | refine S.seq ?_ | refine S.region ?_ | refine S.condT rfl ?_ | refine S.condF rfl ?_ | refine RRun.skip ?_ | refine RRun.block ?_ | refine RRun.inBlock ?_ | refine RRun.exit rfl ?_)
    exact S.keep [0, 1, 9, 10] rfl hk
  | succ f ih =>
    intro i hf hin hk
    by_cases hij : i ≤ j
    · cases hl : ltE d[a]! d[i]! with
      | false =>
        rw [scanUp_go hij (by simp [hl])] at hk
        refine RRun.inLoop ?_
        repeat' (first | (refine S.op0 rfl (S.stE rfl rfl rfl (by simp only [List.length_set, Array.length_toList]; omega) ?_)) | refine S.nilK ?_ | (refine S.op rfl ?_; first | refine S.addNN (n := 1) rfl rfl (by omega) ?_ | refine S.addNN rfl rfl (by omega) ?_ | refine S.subNN (n := 1) rfl rfl (by omega) (by omega) ?_ | refine S.subNN rfl rfl (by omega) (by omega) ?_ | refine S.ix rfl rfl (by omega) ?_ | refine S.ldE (by decide) rfl (by omega) ?_ | refine callS rfl rfl (less_is hl _) ?_ | refine R.mv rfl ?_ | refine R.loadR rfl rfl ?_ | refine R.load (by decide) rfl (by first | assumption | exact AHeap.set_same _ _ _) rfl ?_ | refine S.addI rfl rfl (by omega) ?_ | refine S.subI rfl rfl (by omega) ?_ | refine S.addU rfl rfl ?_ | refine S.subU rfl rfl ?_ | refine S.addUc rfl (by decide) ?_ | refine S.subUc rfl (by decide) ?_ | refine R.pickT rfl rfl ?_ | refine R.pickF rfl rfl ?_ | refine R.not rfl ?_ | ((first | refine S.gtr rfl rfl ?_ ?_ | refine S.leq rfl rfl ?_ ?_) <;> intro hlt <;> try (exfalso; omega))) | (refine S.op0 rfl ?_; first | refine S.storeS rfl rfl rfl (by rfl) rfl (by first | decide | exact Nat.le_refl _ | exact Nat.le_of_ble_eq_true rfl) ?_ | refine S.store rfl rfl (by first | assumption | exact AHeap.set_same _ _ _) rfl rfl rfl (by rfl) rfl ?_) | refine S.skip rfl ?_ | refine S.skip0 rfl ?_ | refine S.seq ?_ | refine S.region ?_ | refine S.condT rfl ?_ | refine S.condF rfl ?_ | refine RRun.skip ?_ | refine RRun.block ?_ | refine RRun.inBlock ?_ | refine RRun.exit rfl ?_)
        exact S.keep [0, 1, 9, 10] rfl (ih (i + 1) (by omega) (by omega) hk)
      | true =>
        rw [scanUp_stop (by simp [hl])] at hk
        refine RRun.inLoop ?_
        repeat' (first | (refine S.op0 rfl (S.stE rfl rfl rfl (by simp only [List.length_set, Array.length_toList]; omega) ?_)) | refine S.nilK ?_ | (refine S.op rfl ?_; first | refine S.addNN (n := 1) rfl rfl (by omega) ?_ | refine S.addNN rfl rfl (by omega) ?_ | refine S.subNN (n := 1) rfl rfl (by omega) (by omega) ?_ | refine S.subNN rfl rfl (by omega) (by omega) ?_ | refine S.ix rfl rfl (by omega) ?_ | refine S.ldE (by decide) rfl (by omega) ?_ | refine callS rfl rfl (less_is hl _) ?_ | refine R.mv rfl ?_ | refine R.loadR rfl rfl ?_ | refine R.load (by decide) rfl (by first | assumption | exact AHeap.set_same _ _ _) rfl ?_ | refine S.addI rfl rfl (by omega) ?_ | refine S.subI rfl rfl (by omega) ?_ | refine S.addU rfl rfl ?_ | refine S.subU rfl rfl ?_ | refine S.addUc rfl (by decide) ?_ | refine S.subUc rfl (by decide) ?_ | refine R.pickT rfl rfl ?_ | refine R.pickF rfl rfl ?_ | refine R.not rfl ?_ | ((first | refine S.gtr rfl rfl ?_ ?_ | refine S.leq rfl rfl ?_ ?_) <;> intro hlt <;> try (exfalso; omega))) | (refine S.op0 rfl ?_; first | refine S.storeS rfl rfl rfl (by rfl) rfl (by first | decide | exact Nat.le_refl _ | exact Nat.le_of_ble_eq_true rfl) ?_ | refine S.store rfl rfl (by first | assumption | exact AHeap.set_same _ _ _) rfl rfl rfl (by rfl) rfl ?_) | refine S.skip rfl ?_ | refine S.skip0 rfl ?_ | refine S.seq ?_ | refine S.region ?_ | refine S.condT rfl ?_ | refine S.condF rfl ?_ | refine RRun.skip ?_ | refine RRun.block ?_ | refine RRun.inBlock ?_ | refine RRun.exit rfl ?_)
        exact S.keep [0, 1, 9, 10] rfl hk
    · rw [scanUp_stop (by omega)] at hk
      refine RRun.inLoop ?_
      repeat' (first | (refine S.op0 rfl (S.stE rfl rfl rfl (by simp only [List.length_set, Array.length_toList]; omega) ?_)) | refine S.nilK ?_ | (refine S.op rfl ?_; first | refine S.addNN (n := 1) rfl rfl (by omega) ?_ | refine S.addNN rfl rfl (by omega) ?_ | refine S.subNN (n := 1) rfl rfl (by omega) (by omega) ?_ | refine S.subNN rfl rfl (by omega) (by omega) ?_ | refine S.ix rfl rfl (by omega) ?_ | refine S.ldE (by decide) rfl (by omega) ?_ | refine R.mv rfl ?_ | refine R.loadR rfl rfl ?_ | refine R.load (by decide) rfl (by first | assumption | exact AHeap.set_same _ _ _) rfl ?_ | refine S.addI rfl rfl (by omega) ?_ | refine S.subI rfl rfl (by omega) ?_ | refine S.addU rfl rfl ?_ | refine S.subU rfl rfl ?_ | refine S.addUc rfl (by decide) ?_ | refine S.subUc rfl (by decide) ?_ | refine R.pickT rfl rfl ?_ | refine R.pickF rfl rfl ?_ | refine R.not rfl ?_ | ((first | refine S.gtr rfl rfl ?_ ?_ | refine S.leq rfl rfl ?_ ?_) <;> intro hlt <;> try (exfalso; omega))) | (refine S.op0 rfl ?_; first | refine S.storeS rfl rfl rfl (by rfl) rfl (by first | decide | exact Nat.le_refl _ | exact Nat.le_of_ble_eq_true rfl) ?_ | refine S.store rfl rfl (by first | assumption | exact AHeap.set_same _ _ _) rfl rfl rfl (by rfl) rfl ?_) | refine S.skip rfl ?_ | refine S.skip0 rfl ?_ | refine S.seq ?_ | refine S.region ?_ | refine S.condT rfl ?_ | refine S.condF rfl ?_ | refine RRun.skip ?_ | refine RRun.block ?_ | refine RRun.inBlock ?_ | refine RRun.exit rfl ?_)
      exact S.keep [0, 1, 9, 10] rfl hk

theorem scanDown_e (q cap n a i : Nat) (sp : List AV) (h : AHeap) (hn : n ≤ 1000000) (ha : a < n) (hi : 1 ≤ i) (d : Array SE) (hd : d.size = n) (k : List RT) (Q : AV → AHeap → Prop) : ∀ (j : Nat), j < n →
    RRun Try.prog Try.f114 84 k (Env.get [(0, slAt q 0 n cap), (1, i64 a), (9, i64 i), (10, i64 (scanDown (fun x => ltE d[a]! x) d i j : Nat))]) (HL h q d.toList sp) Q →
    RRun Try.prog Try.f114 84 (.inLoop r114l2 :: .inBlock 4 :: k) (Env.get [(0, slAt q 0 n cap), (1, i64 a), (9, i64 i), (10, i64 j)]) (HL h q d.toList sp) Q := by
  have stop : ∀ (j : Nat), ¬ i ≤ j → RRun Try.prog Try.f114 84 k (Env.get [(0, slAt q 0 n cap), (1, i64 a), (9, i64 i), (10, i64 (scanDown (fun x => ltE d[a]! x) d i j : Nat))]) (HL h q d.toList sp) Q →
    RRun Try.prog Try.f114 84 (.inLoop r114l2 :: .inBlock 4 :: k) (Env.get [(0, slAt q 0 n cap), (1, i64 a), (9, i64 i), (10, i64 j)]) (HL h q d.toList sp) Q := by
    intro j hij hk
    rw [scanDown_stop (by omega)] at hk
    refine RRun.inLoop ?_
    repeat' (first | (refine S.op0 rfl (S.stE rfl rfl rfl (by simp only [List.length_set, Array.length_toList]; omega) ?_)) | refine S.nilK ?_ | (refine S.op rfl ?_; first | refine S.addNN (n := 1) rfl rfl (by omega) ?_ | refine S.addNN rfl rfl (by omega) ?_ | refine S.subNN (n := 1) rfl rfl (by omega) (by omega) ?_ | refine S.subNN rfl rfl (by omega) (by omega) ?_ | refine S.ix rfl rfl (by omega) ?_ | refine S.ldE (by decide) rfl (by omega) ?_ | refine R.mv rfl ?_ | refine R.loadR rfl rfl ?_ | refine R.load (by decide) rfl (by first | assumption | exact AHeap.set_same _ _ _) rfl ?_ | refine S.addI rfl rfl (by omega) ?_ | refine S.subI rfl rfl (by omega) ?_ | refine S.addU rfl rfl ?_ | refine S.subU rfl rfl ?_ | refine S.addUc rfl (by decide) ?_ | refine S.subUc rfl (by decide) ?_ | refine R.pickT rfl rfl ?_ | refine R.pickF rfl rfl ?_ | refine R.not rfl ?_ | ((first | refine S.gtr rfl rfl ?_ ?_ | refine S.leq rfl rfl ?_ ?_) <;> intro hlt <;> try (exfalso; omega))) | (refine S.op0 rfl ?_; first | refine S.storeS rfl rfl rfl (by rfl) rfl (by first | decide | exact Nat.le_refl _ | exact Nat.le_of_ble_eq_true rfl) ?_ | refine S.store rfl rfl (by first | assumption | exact AHeap.set_same _ _ _) rfl rfl rfl (by rfl) rfl ?_) | refine S.skip rfl ?_ | refine S.skip0 rfl ?_ | refine S.seq ?_ | refine S.region ?_ | refine S.condT rfl ?_ | refine S.condF rfl ?_ | refine RRun.skip ?_ | refine RRun.block ?_ | refine RRun.inBlock ?_ | refine RRun.exit rfl ?_)
    exact S.keep [0, 1, 9, 10] rfl hk
  intro j
  induction j with
  | zero => intro hj hk; exact stop 0 (by omega) hk
  | succ j ih =>
    intro hj hk
    by_cases hij : i ≤ j + 1
    · cases hl : ltE d[a]! d[j + 1]! with
      | true =>
        rw [scanDown_go hij (by simp [hl])] at hk
        refine RRun.inLoop ?_
        repeat' (first | (refine S.op0 rfl (S.stE rfl rfl rfl (by simp only [List.length_set, Array.length_toList]; omega) ?_)) | refine S.nilK ?_ | (refine S.op rfl ?_; first | refine S.addNN (n := 1) rfl rfl (by omega) ?_ | refine S.addNN rfl rfl (by omega) ?_ | refine S.subNN (n := 1) rfl rfl (by omega) (by omega) ?_ | refine S.subNN rfl rfl (by omega) (by omega) ?_ | refine S.ix rfl rfl (by omega) ?_ | refine S.ldE (by decide) rfl (by omega) ?_ | refine callS rfl rfl (less_is hl _) ?_ | refine R.mv rfl ?_ | refine R.loadR rfl rfl ?_ | refine R.load (by decide) rfl (by first | assumption | exact AHeap.set_same _ _ _) rfl ?_ | refine S.addI rfl rfl (by omega) ?_ | refine S.subI rfl rfl (by omega) ?_ | refine S.addU rfl rfl ?_ | refine S.subU rfl rfl ?_ | refine S.addUc rfl (by decide) ?_ | refine S.subUc rfl (by decide) ?_ | refine R.pickT rfl rfl ?_ | refine R.pickF rfl rfl ?_ | refine R.not rfl ?_ | ((first | refine S.gtr rfl rfl ?_ ?_ | refine S.leq rfl rfl ?_ ?_) <;> intro hlt <;> try (exfalso; omega))) | (refine S.op0 rfl ?_; first | refine S.storeS rfl rfl rfl (by rfl) rfl (by first | decide | exact Nat.le_refl _ | exact Nat.le_of_ble_eq_true rfl) ?_ | refine S.store rfl rfl (by first | assumption | exact AHeap.set_same _ _ _) rfl rfl rfl (by rfl) rfl ?_) | refine S.skip rfl ?_ | refine S.skip0 rfl ?_ | refine S.seq ?_ | refine S.region ?_ | refine S.condT rfl ?_ | refine S.condF rfl ?_ | refine RRun.skip ?_ | refine RRun.block ?_ | refine RRun.inBlock ?_ | refine RRun.exit rfl ?_)
        exact S.keep [0, 1, 9, 10] rfl (ih (by omega) hk)
      | false =>
        rw [scanDown_stop (by simp [hl])] at hk
        refine RRun.inLoop ?_
        repeat' (first | (refine S.op0 rfl (S.stE rfl rfl rfl (by simp only [List.length_set, Array.length_toList]; omega) ?_)) | refine S.nilK ?_ | (refine S.op rfl ?_; first | refine S.addNN (n := 1) rfl rfl (by omega) ?_ | refine S.addNN rfl rfl (by omega) ?_ | refine S.subNN (n := 1) rfl rfl (by omega) (by omega) ?_ | refine S.subNN rfl rfl (by omega) (by omega) ?_ | refine S.ix rfl rfl (by omega) ?_ | refine S.ldE (by decide) rfl (by omega) ?_ | refine callS rfl rfl (less_is hl _) ?_ | refine R.mv rfl ?_ | refine R.loadR rfl rfl ?_ | refine R.load (by decide) rfl (by first | assumption | exact AHeap.set_same _ _ _) rfl ?_ | refine S.addI rfl rfl (by omega) ?_ | refine S.subI rfl rfl (by omega) ?_ | refine S.addU rfl rfl ?_ | refine S.subU rfl rfl ?_ | refine S.addUc rfl (by decide) ?_ | refine S.subUc rfl (by decide) ?_ | refine R.pickT rfl rfl ?_ | refine R.pickF rfl rfl ?_ | refine R.not rfl ?_ | ((first | refine S.gtr rfl rfl ?_ ?_ | refine S.leq rfl rfl ?_ ?_) <;> intro hlt <;> try (exfalso; omega))) | (refine S.op0 rfl ?_; first | refine S.storeS rfl rfl rfl (by rfl) rfl (by first | decide | exact Nat.le_refl _ | exact Nat.le_of_ble_eq_true rfl) ?_ | refine S.store rfl rfl (by first | assumption | exact AHeap.set_same _ _ _) rfl rfl rfl (by rfl) rfl ?_) | refine S.skip rfl ?_ | refine S.skip0 rfl ?_ | refine S.seq ?_ | refine S.region ?_ | refine S.condT rfl ?_ | refine S.condF rfl ?_ | refine RRun.skip ?_ | refine RRun.block ?_ | refine RRun.inBlock ?_ | refine RRun.exit rfl ?_)
        exact S.keep [0, 1, 9, 10] rfl hk
    · exact stop (j + 1) hij hk

theorem partEq_loop (q cap n a : Nat) (sp : List AV) (h : AHeap) (hn : n ≤ 1000000) (ha : a < n) (k : List RT) (Q : AV → AHeap → Prop) : ∀ (f i j : Nat) (d : Array SE), d.size = n → j + 1 ≤ i + f → a < i → i ≤ n → j < n →
    (∀ r, r = Go.Sort.partEqLoop ltE a i j d → r.2.size = n → RRun Try.prog Try.f114 84 k (Env.get [(9, i64 (r.1 : Nat))]) (HL h q r.2.toList sp) Q) →
    RRun Try.prog Try.f114 84 (.inLoop r114l0 :: .inBlock 0 :: k) (Env.get [(0, slAt q 0 n cap), (1, i64 a), (9, i64 i), (10, i64 j)]) (HL h q d.toList sp) Q := by
  intro f
  induction f with
  | zero =>
    intro i j d hd hf hai hin hj hk
    rw [Go.Sort.partEqLoop_eq] at hk
    have g1 := scanUp_ge (fun x => !ltE d[a]! x) d j (j + 1) i (by omega)
    have g2 := scanDown_le (fun x => ltE d[a]! x) d (scanUp (fun x => !ltE d[a]! x) d j i) j
    have e : scanUp (fun x => !ltE d[a]! x) d j i > scanDown (fun x => ltE d[a]! x) d (scanUp (fun x => !ltE d[a]! x) d j i) j := by omega
    rw [if_pos e] at hk
    refine RRun.inLoop ?_
    unfold r114l0
    repeat' (first | refine S.nilK ?_ | (refine S.op rfl ?_; first | refine R.mv rfl ?_ | refine R.loadR rfl rfl ?_ | refine R.load (by decide) rfl (by first | assumption | exact AHeap.set_same _ _ _) rfl ?_ | refine S.addI rfl rfl (by omega) ?_ | refine S.subI rfl rfl (by omega) ?_ | refine S.addU rfl rfl ?_ | refine S.subU rfl rfl ?_ | refine S.addUc rfl (by decide) ?_ | refine S.subUc rfl (by decide) ?_ | refine R.pickT rfl rfl ?_ | refine R.pickF rfl rfl ?_ | refine R.not rfl ?_ | ((first | refine S.gtr rfl rfl ?_ ?_ | refine S.leq rfl rfl ?_ ?_) <;> intro hlt <;> try (exfalso; omega))) | (refine S.op0 rfl ?_; first | refine S.storeS rfl rfl rfl (by rfl) rfl (by first | decide | exact Nat.le_refl _ | exact Nat.le_of_ble_eq_true rfl) ?_ | refine S.store rfl rfl (by first | assumption | exact AHeap.set_same _ _ _) rfl rfl rfl (by rfl) rfl ?_) | refine S.skip rfl ?_ | refine S.skip0 rfl ?_ | refine S.seq ?_ | refine S.region ?_ | refine S.condT rfl ?_ | refine S.condF rfl ?_ | refine RRun.skip ?_ | refine RRun.block ?_ | refine RRun.inBlock ?_ | refine RRun.exit rfl ?_)
    refine RRun.loopIn (S.keep [0, 1, 9, 10] rfl (scanUp_e q cap n a j sp h hn ha hj d hd _ _ (j + 1) i (by omega) (by omega) ?_))
    repeat' (first | refine S.nilK ?_ | (refine S.op rfl ?_; first | refine R.mv rfl ?_ | refine R.loadR rfl rfl ?_ | refine R.load (by decide) rfl (by first | assumption | exact AHeap.set_same _ _ _) rfl ?_ | refine S.addI rfl rfl (by omega) ?_ | refine S.subI rfl rfl (by omega) ?_ | refine S.addU rfl rfl ?_ | refine S.subU rfl rfl ?_ | refine S.addUc rfl (by decide) ?_ | refine S.subUc rfl (by decide) ?_ | refine R.pickT rfl rfl ?_ | refine R.pickF rfl rfl ?_ | refine R.not rfl ?_ | ((first | refine S.gtr rfl rfl ?_ ?_ | refine S.leq rfl rfl ?_ ?_) <;> intro hlt <;> try (exfalso; omega))) | (refine S.op0 rfl ?_; first | refine S.storeS rfl rfl rfl (by rfl) rfl (by first | decide | exact Nat.le_refl _ | exact Nat.le_of_ble_eq_true rfl) ?_ | refine S.store rfl rfl (by first | assumption | exact AHeap.set_same _ _ _) rfl rfl rfl (by rfl) rfl ?_) | refine S.skip rfl ?_ | refine S.skip0 rfl ?_ | refine S.seq ?_ | refine S.region ?_ | refine S.condT rfl ?_ | refine S.condF rfl ?_ | refine RRun.skip ?_ | refine RRun.block ?_ | refine RRun.inBlock ?_ | refine RRun.exit rfl ?_)
    refine RRun.loopIn (S.keep [0, 1, 9, 10] rfl (scanDown_e q cap n a _ sp h hn ha (by omega) d hd _ _ j hj ?_))
    generalize scanUp (fun x => !ltE d[a]! x) d j i = i2 at *
    generalize scanDown (fun x => ltE d[a]! x) d i2 j = j2 at *
    repeat' (first | refine S.nilK ?_ | (refine S.op rfl ?_; first | refine R.mv rfl ?_ | refine R.loadR rfl rfl ?_ | refine R.load (by decide) rfl (by first | assumption | exact AHeap.set_same _ _ _) rfl ?_ | refine S.addI rfl rfl (by omega) ?_ | refine S.subI rfl rfl (by omega) ?_ | refine S.addU rfl rfl ?_ | refine S.subU rfl rfl ?_ | refine S.addUc rfl (by decide) ?_ | refine S.subUc rfl (by decide) ?_ | refine R.pickT rfl rfl ?_ | refine R.pickF rfl rfl ?_ | refine R.not rfl ?_ | ((first | refine S.gtr rfl rfl ?_ ?_ | refine S.leq rfl rfl ?_ ?_) <;> intro hlt <;> try (exfalso; omega))) | (refine S.op0 rfl ?_; first | refine S.storeS rfl rfl rfl (by rfl) rfl (by first | decide | exact Nat.le_refl _ | exact Nat.le_of_ble_eq_true rfl) ?_ | refine S.store rfl rfl (by first | assumption | exact AHeap.set_same _ _ _) rfl rfl rfl (by rfl) rfl ?_) | refine S.skip rfl ?_ | refine S.skip0 rfl ?_ | refine S.seq ?_ | refine S.region ?_ | refine S.condT rfl ?_ | refine S.condF rfl ?_ | refine RRun.skip ?_ | refine RRun.block ?_ | refine RRun.inBlock ?_ | refine RRun.exit rfl ?_)
    exact S.keep [9] rfl (hk _ rfl hd)
  | succ f ih =>
    intro i j d hd hf hai hin hj hk
    rw [Go.Sort.partEqLoop_eq] at hk
    have g1 := scanUp_ge (fun x => !ltE d[a]! x) d j (j + 1) i (by omega)
    have g2 := scanDown_le (fun x => ltE d[a]! x) d (scanUp (fun x => !ltE d[a]! x) d j i) j
    refine RRun.inLoop ?_
    unfold r114l0
    repeat' (first | refine S.nilK ?_ | (refine S.op rfl ?_; first | refine R.mv rfl ?_ | refine R.loadR rfl rfl ?_ | refine R.load (by decide) rfl (by first | assumption | exact AHeap.set_same _ _ _) rfl ?_ | refine S.addI rfl rfl (by omega) ?_ | refine S.subI rfl rfl (by omega) ?_ | refine S.addU rfl rfl ?_ | refine S.subU rfl rfl ?_ | refine S.addUc rfl (by decide) ?_ | refine S.subUc rfl (by decide) ?_ | refine R.pickT rfl rfl ?_ | refine R.pickF rfl rfl ?_ | refine R.not rfl ?_ | ((first | refine S.gtr rfl rfl ?_ ?_ | refine S.leq rfl rfl ?_ ?_) <;> intro hlt <;> try (exfalso; omega))) | (refine S.op0 rfl ?_; first | refine S.storeS rfl rfl rfl (by rfl) rfl (by first | decide | exact Nat.le_refl _ | exact Nat.le_of_ble_eq_true rfl) ?_ | refine S.store rfl rfl (by first | assumption | exact AHeap.set_same _ _ _) rfl rfl rfl (by rfl) rfl ?_) | refine S.skip rfl ?_ | refine S.skip0 rfl ?_ | refine S.seq ?_ | refine S.region ?_ | refine S.condT rfl ?_ | refine S.condF rfl ?_ | refine RRun.skip ?_ | refine RRun.block ?_ | refine RRun.inBlock ?_ | refine RRun.exit rfl ?_)
    refine RRun.loopIn (S.keep [0, 1, 9, 10] rfl (scanUp_e q cap n a j sp h hn ha hj d hd _ _ (j + 1) i (by omega) (by omega) ?_))
    repeat' (first | refine S.nilK ?_ | (refine S.op rfl ?_; first | refine R.mv rfl ?_ | refine R.loadR rfl rfl ?_ | refine R.load (by decide) rfl (by first | assumption | exact AHeap.set_same _ _ _) rfl ?_ | refine S.addI rfl rfl (by omega) ?_ | refine S.subI rfl rfl (by omega) ?_ | refine S.addU rfl rfl ?_ | refine S.subU rfl rfl ?_ | refine S.addUc rfl (by decide) ?_ | refine S.subUc rfl (by decide) ?_ | refine R.pickT rfl rfl ?_ | refine R.pickF rfl rfl ?_ | refine R.not rfl ?_ | ((first | refine S.gtr rfl rfl ?_ ?_ | refine S.leq rfl rfl ?_ ?_) <;> intro hlt <;> try (exfalso; omega))) | (refine S.op0 rfl ?_; first | refine S.storeS rfl rfl rfl (by rfl) rfl (by first | decide | exact Nat.le_refl _ | exact Nat.le_of_ble_eq_true rfl) ?_ | refine S.store rfl rfl (by first | assumption | exact AHeap.set_same _ _ _) rfl rfl rfl (by rfl) rfl ?_) | refine S.skip rfl ?_ | refine S.skip0 rfl ?_ | refine S.seq ?_ | refine S.region ?_ | refine S.condT rfl ?_ | refine S.condF rfl ?_ | refine RRun.skip ?_ | refine RRun.block ?_ | refine RRun.inBlock ?_ | refine RRun.exit rfl ?_)
    refine RRun.loopIn (S.keep [0, 1, 9, 10] rfl (scanDown_e q cap n a _ sp h hn ha (by omega) d hd _ _ j hj ?_))
    generalize scanUp (fun x => !ltE d[a]! x) d j i = i2 at *
    generalize scanDown (fun x => ltE d[a]! x) d i2 j = j2 at *
    by_cases e : i2 > j2
    · rw [if_pos e] at hk
      repeat' (first | refine S.nilK ?_ | (refine S.op rfl ?_; first | refine R.mv rfl ?_ | refine R.loadR rfl rfl ?_ | refine R.load (by decide) rfl (by first | assumption | exact AHeap.set_same _ _ _) rfl ?_ | refine S.addI rfl rfl (by omega) ?_ | refine S.subI rfl rfl (by omega) ?_ | refine S.addU rfl rfl ?_ | refine S.subU rfl rfl ?_ | refine S.addUc rfl (by decide) ?_ | refine S.subUc rfl (by decide) ?_ | refine R.pickT rfl rfl ?_ | refine R.pickF rfl rfl ?_ | refine R.not rfl ?_ | ((first | refine S.gtr rfl rfl ?_ ?_ | refine S.leq rfl rfl ?_ ?_) <;> intro hlt <;> try (exfalso; omega))) | (refine S.op0 rfl ?_; first | refine S.storeS rfl rfl rfl (by rfl) rfl (by first | decide | exact Nat.le_refl _ | exact Nat.le_of_ble_eq_true rfl) ?_ | refine S.store rfl rfl (by first | assumption | exact AHeap.set_same _ _ _) rfl rfl rfl (by rfl) rfl ?_) | refine S.skip rfl ?_ | refine S.skip0 rfl ?_ | refine S.seq ?_ | refine S.region ?_ | refine S.condT rfl ?_ | refine S.condF rfl ?_ | refine RRun.skip ?_ | refine RRun.block ?_ | refine RRun.inBlock ?_ | refine RRun.exit rfl ?_)
      exact S.keep [9] rfl (hk _ rfl hd)
    · rw [if_neg e] at hk
      repeat' (first | (refine S.op0 rfl (S.stE rfl rfl rfl (by simp only [List.length_set, Array.length_toList]; omega) ?_)) | refine S.nilK ?_ | (refine S.op rfl ?_; first | refine S.addNN (n := 1) rfl rfl (by omega) ?_ | refine S.addNN rfl rfl (by omega) ?_ | refine S.subNN (n := 1) rfl rfl (by omega) (by omega) ?_ | refine S.subNN rfl rfl (by omega) (by omega) ?_ | refine S.ix rfl rfl (by omega) ?_ | refine S.ldE (by decide) rfl (by omega) ?_ | refine R.mv rfl ?_ | refine R.loadR rfl rfl ?_ | refine R.load (by decide) rfl (by first | assumption | exact AHeap.set_same _ _ _) rfl ?_ | refine S.addI rfl rfl (by omega) ?_ | refine S.subI rfl rfl (by omega) ?_ | refine S.addU rfl rfl ?_ | refine S.subU rfl rfl ?_ | refine S.addUc rfl (by decide) ?_ | refine S.subUc rfl (by decide) ?_ | refine R.pickT rfl rfl ?_ | refine R.pickF rfl rfl ?_ | refine R.not rfl ?_ | ((first | refine S.gtr rfl rfl ?_ ?_ | refine S.leq rfl rfl ?_ ?_) <;> intro hlt <;> try (exfalso; omega))) | (refine S.op0 rfl ?_; first | refine S.storeS rfl rfl rfl (by rfl) rfl (by first | decide | exact Nat.le_refl _ | exact Nat.le_of_ble_eq_true rfl) ?_ | refine S.store rfl rfl (by first | assumption | exact AHeap.set_same _ _ _) rfl rfl rfl (by rfl) rfl ?_) | refine S.skip rfl ?_ | refine S.skip0 rfl ?_ | refine S.seq ?_ | refine S.region ?_ | refine S.condT rfl ?_ | refine S.condF rfl ?_ | refine RRun.skip ?_ | refine RRun.block ?_ | refine RRun.inBlock ?_ | refine RRun.exit rfl ?_)
      rw [swp_list]
      exact S.keep [0, 1, 9, 10] rfl (ih (i2 + 1) (j2 - 1) _ (by rw [swp_size]; exact hd) (by omega) (by omega) (by omega) (by omega) hk)

theorem partitionEqual_spec (q cap n a e pivot : Nat) (sp : List AV) (h : AHeap) (hn : n ≤ 1000000) (he : e ≤ n) (ha : a < e) (hp1 : a ≤ pivot) (hp2 : pivot < e) (d : Array SE) (hd : d.size = n) :
    ACalls Try.prog 114 [slAt q 0 n cap, i64 a, i64 e, i64 pivot] (HL h q d.toList sp) (fun x h' => ∃ (mid : Nat) (d4 : Array SE), Go.Sort.partitionEqual ltE d a e pivot = (mid, d4) ∧ x = i64 mid ∧ h' = HL h q d4.toList sp ∧ d4.size = n) := by
  obtain ⟨c, hc1, hc2⟩ := res114
  refine ACalls.enter Try.func114 hc1 Try.ntmps114 hc2 (Nat.le_of_ble_eq_true rfl) rfl ?_
  have hd1 : (swp d a pivot).size = n := by rw [swp_size]; exact hd
  repeat' (first | (refine S.op0 rfl (S.stE rfl rfl rfl (by simp only [List.length_set, Array.length_toList]; omega) ?_)) | refine S.nilK ?_ | (refine S.op rfl ?_; first | refine S.addNN (n := 1) rfl rfl (by omega) ?_ | refine S.addNN rfl rfl (by omega) ?_ | refine S.subNN (n := 1) rfl rfl (by omega) (by omega) ?_ | refine S.subNN rfl rfl (by omega) (by omega) ?_ | refine S.ix rfl rfl (by omega) ?_ | refine S.ldE (by decide) rfl (by omega) ?_ | refine R.mv rfl ?_ | refine R.loadR rfl rfl ?_ | refine R.load (by decide) rfl (by first | assumption | exact AHeap.set_same _ _ _) rfl ?_ | refine S.addI rfl rfl (by omega) ?_ | refine S.subI rfl rfl (by omega) ?_ | refine S.addU rfl rfl ?_ | refine S.subU rfl rfl ?_ | refine S.addUc rfl (by decide) ?_ | refine S.subUc rfl (by decide) ?_ | refine R.pickT rfl rfl ?_ | refine R.pickF rfl rfl ?_ | refine R.not rfl ?_ | ((first | refine S.gtr rfl rfl ?_ ?_ | refine S.leq rfl rfl ?_ ?_) <;> intro hlt <;> try (exfalso; omega))) | (refine S.op0 rfl ?_; first | refine S.storeS rfl rfl rfl (by rfl) rfl (by first | decide | exact Nat.le_refl _ | exact Nat.le_of_ble_eq_true rfl) ?_ | refine S.store rfl rfl (by first | assumption | exact AHeap.set_same _ _ _) rfl rfl rfl (by rfl) rfl ?_) | refine S.skip rfl ?_ | refine S.skip0 rfl ?_ | refine S.seq ?_ | refine S.region ?_ | refine S.condT rfl ?_ | refine S.condF rfl ?_ | refine RRun.skip ?_ | refine RRun.block ?_ | refine RRun.inBlock ?_ | refine RRun.exit rfl ?_)
  rw [swp_list]
  refine RRun.loopIn (S.keep [0, 1, 9, 10] rfl (partEq_loop q cap n a sp h hn (by omega) _ _ (n + 1) (a + 1) (e - 1) _ hd1 (by omega) (by omega) (by omega) (by omega) (fun r hr hr1 => ?_)))
  repeat' (first | refine S.nilK ?_ | (refine S.op rfl ?_; first | refine R.mv rfl ?_ | refine R.loadR rfl rfl ?_ | refine R.load (by decide) rfl (by first | assumption | exact AHeap.set_same _ _ _) rfl ?_ | refine S.addI rfl rfl (by omega) ?_ | refine S.subI rfl rfl (by omega) ?_ | refine S.addU rfl rfl ?_ | refine S.subU rfl rfl ?_ | refine S.addUc rfl (by decide) ?_ | refine S.subUc rfl (by decide) ?_ | refine R.pickT rfl rfl ?_ | refine R.pickF rfl rfl ?_ | refine R.not rfl ?_ | ((first | refine S.gtr rfl rfl ?_ ?_ | refine S.leq rfl rfl ?_ ?_) <;> intro hlt <;> try (exfalso; omega))) | (refine S.op0 rfl ?_; first | refine S.storeS rfl rfl rfl (by rfl) rfl (by first | decide | exact Nat.le_refl _ | exact Nat.le_of_ble_eq_true rfl) ?_ | refine S.store rfl rfl (by first | assumption | exact AHeap.set_same _ _ _) rfl rfl rfl (by rfl) rfl ?_) | refine S.skip rfl ?_ | refine S.skip0 rfl ?_ | refine S.seq ?_ | refine S.region ?_ | refine S.condT rfl ?_ | refine S.condF rfl ?_ | refine RRun.skip ?_ | refine RRun.block ?_ | refine RRun.inBlock ?_ | refine RRun.exit rfl ?_)
  apply S.ret rr114
  case hx => repeat (first | exact ResAt.nil | apply ResAt.tmp rfl | apply ResAt.cellA rfl (by first | assumption | exact AHeap.set_same _ _ _) (by rfl) | apply ResAt.cell1 rfl (by first | assumption | exact AHeap.set_same _ _ _) (by rfl))
  exact ⟨r.1, r.2, hr.symm, rfl, rfl, hr1⟩

/-! ### partialInsertionSort, of fewer than 50 -/
def r112l1 : RCode :=
  (.seq (.seq (.region [
    ⟨(some 17), none, .pure, .mv (.tmp 7)⟩,
    ⟨(some 18), none, .pure, .mv (.tmp 2)⟩,
    ⟨(some 19), none, .pure, .bin .lss (.tmp 17) (.tmp 18)⟩,
    ⟨(some 20), none, .pure, .mv (.tmp 19)⟩,
    ⟨(some 21), (some (20, true)), .pure, .mv (.tmp 0)⟩,
    ⟨(some 22), (some (20, true)), .pure, .mv (.tmp 7)⟩,
    ⟨(some 23), (some (20, true)), .pure, .indexAddr 1 (.tmp 21) (.tmp 22)⟩,
    ⟨(some 24), (some (20, true)), .read, .load false 1 (.tmp 23)⟩,
    ⟨(some 25), (some (20, true)), .pure, .mv (.tmp 0)⟩,
    ⟨(some 26), (some (20, true)), .pure, .mv (.tmp 7)⟩,
    ⟨(some 27), (some (20, true)), .pure, .bin .sub (.tmp 26) (.const (.int .i64 1))⟩,
    ⟨(some 28), (some (20, true)), .pure, .indexAddr 1 (.tmp 25) (.tmp 27)⟩,
    ⟨(some 29), (some (20, true)), .read, .load false 1 (.tmp 28)⟩,
    ⟨(some 30), (some (20, true)), .act, .call 113 [(.tmp 24), (.tmp 29)]⟩,
    ⟨(some 31), (some (20, true)), .pure, .un .not (.tmp 30)⟩,
    ⟨(some 32), none, .pure, .pick (.tmp 20) (.tmp 31) (.const (.bool false))⟩])
  (.cond (.tmp 32)
   .skip
   (.exit 2)))
  (.block 3
   (.region [
     ⟨(some 33), none, .act, .mv (.tmp 7)⟩,
     ⟨(some 34), none, .act, .bin .add (.tmp 33) (.const (.int .i64 1))⟩,
     ⟨(some 7), none, .act, .mv (.tmp 34)⟩])))
def r112l2 : RCode :=
  (.seq (.seq (.region [
    ⟨(some 64), none, .act, .mv (.tmp 9)⟩,
    ⟨(some 65), none, .act, .bin .geq (.tmp 64) (.const (.int .i64 1))⟩])
  (.cond (.tmp 65)
   .skip
   (.exit 4)))
  (.seq (.block 5
   (.seq (.seq (.region [
     ⟨(some 68), none, .pure, .mv (.tmp 0)⟩,
     ⟨(some 69), none, .pure, .mv (.tmp 9)⟩,
     ⟨(some 70), none, .pure, .indexAddr 1 (.tmp 68) (.tmp 69)⟩,
     ⟨(some 71), none, .read, .load false 1 (.tmp 70)⟩,
     ⟨(some 72), none, .pure, .mv (.tmp 0)⟩,
     ⟨(some 73), none, .pure, .mv (.tmp 9)⟩,
     ⟨(some 74), none, .pure, .bin .sub (.tmp 73) (.const (.int .i64 1))⟩,
     ⟨(some 75), none, .pure, .indexAddr 1 (.tmp 72) (.tmp 74)⟩,
     ⟨(some 76), none, .read, .load false 1 (.tmp 75)⟩,
     ⟨(some 77), none, .act, .call 113 [(.tmp 71), (.tmp 76)]⟩,
     ⟨(some 78), none, .pure, .un .not (.tmp 77)⟩])
   (.cond (.tmp 78)
    (.exit 4)
    .skip))
   (.region [
     ⟨(some 79), none, .pure, .mv (.tmp 0)⟩,
     ⟨(some 80), none, .pure, .mv (.tmp 9)⟩,
     ⟨(some 81), none, .pure, .mv (.tmp 0)⟩,
     ⟨(some 82), none, .pure, .mv (.tmp 9)⟩,
     ⟨(some 83), none, .pure, .bin .sub (.tmp 82) (.const (.int .i64 1))⟩,
     ⟨(some 84), none, .pure, .mv (.tmp 0)⟩,
     ⟨(some 85), none, .pure, .mv (.tmp 9)⟩,
     ⟨(some 86), none, .pure, .bin .sub (.tmp 85) (.const (.int .i64 1))⟩,
     ⟨(some 87), none, .pure, .indexAddr 1 (.tmp 84) (.tmp 86)⟩,
     ⟨(some 88), none, .read, .load false 1 (.tmp 87)⟩,
     ⟨(some 89), none, .pure, .mv (.tmp 0)⟩,
     ⟨(some 90), none, .pure, .mv (.tmp 9)⟩,
     ⟨(some 91), none, .pure, .indexAddr 1 (.tmp 89) (.tmp 90)⟩,
     ⟨(some 92), none, .read, .load false 1 (.tmp 91)⟩,
     ⟨(some 93), none, .pure, .indexAddr 1 (.tmp 79) (.tmp 80)⟩,
     ⟨none, none, .act, .store 1 (.tmp 93) (.tmp 88)⟩,
     ⟨(some 94), none, .pure, .indexAddr 1 (.tmp 81) (.tmp 83)⟩,
     ⟨none, none, .act, .store 1 (.tmp 94) (.tmp 92)⟩])))
  (.region [
    ⟨(some 66), none, .act, .mv (.tmp 9)⟩,
    ⟨(some 67), none, .act, .bin .sub (.tmp 66) (.const (.int .i64 1))⟩,
    ⟨(some 9), none, .act, .mv (.tmp 67)⟩])))
def r112l3 : RCode :=
  (.seq (.seq (.region [
    ⟨(some 101), none, .act, .mv (.tmp 10)⟩,
    ⟨(some 102), none, .act, .mv (.tmp 2)⟩,
    ⟨(some 103), none, .act, .bin .lss (.tmp 101) (.tmp 102)⟩])
  (.cond (.tmp 103)
   .skip
   (.exit 6)))
  (.seq (.block 7
   (.seq (.seq (.region [
     ⟨(some 106), none, .pure, .mv (.tmp 0)⟩,
     ⟨(some 107), none, .pure, .mv (.tmp 10)⟩,
     ⟨(some 108), none, .pure, .indexAddr 1 (.tmp 106) (.tmp 107)⟩,
     ⟨(some 109), none, .read, .load false 1 (.tmp 108)⟩,
     ⟨(some 110), none, .pure, .mv (.tmp 0)⟩,
     ⟨(some 111), none, .pure, .mv (.tmp 10)⟩,
     ⟨(some 112), none, .pure, .bin .sub (.tmp 111) (.const (.int .i64 1))⟩,
     ⟨(some 113), none, .pure, .indexAddr 1 (.tmp 110) (.tmp 112)⟩,
     ⟨(some 114), none, .read, .load false 1 (.tmp 113)⟩,
     ⟨(some 115), none, .act, .call 113 [(.tmp 109), (.tmp 114)]⟩,
     ⟨(some 116), none, .pure, .un .not (.tmp 115)⟩])
   (.cond (.tmp 116)
    (.exit 6)
    .skip))
   (.region [
     ⟨(some 117), none, .pure, .mv (.tmp 0)⟩,
     ⟨(some 118), none, .pure, .mv (.tmp 10)⟩,
     ⟨(some 119), none, .pure, .mv (.tmp 0)⟩,
     ⟨(some 120), none, .pure, .mv (.tmp 10)⟩,
     ⟨(some 121), none, .pure, .bin .sub (.tmp 120) (.const (.int .i64 1))⟩,
     ⟨(some 122), none, .pure, .mv (.tmp 0)⟩,
     ⟨(some 123), none, .pure, .mv (.tmp 10)⟩,
     ⟨(some 124), none, .pure, .bin .sub (.tmp 123) (.const (.int .i64 1))⟩,
     ⟨(some 125), none, .pure, .indexAddr 1 (.tmp 122) (.tmp 124)⟩,
     ⟨(some 126), none, .read, .load false 1 (.tmp 125)⟩,
     ⟨(some 127), none, .pure, .mv (.tmp 0)⟩,
     ⟨(some 128), none, .pure, .mv (.tmp 10)⟩,
     ⟨(some 129), none, .pure, .indexAddr 1 (.tmp 127) (.tmp 128)⟩,
     ⟨(some 130), none, .read, .load false 1 (.tmp 129)⟩,
     ⟨(some 131), none, .pure, .indexAddr 1 (.tmp 117) (.tmp 118)⟩,
     ⟨none, none, .act, .store 1 (.tmp 131) (.tmp 126)⟩,
     ⟨(some 132), none, .pure, .indexAddr 1 (.tmp 119) (.tmp 121)⟩,
     ⟨none, none, .act, .store 1 (.tmp 132) (.tmp 130)⟩])))
  (.region [
    ⟨(some 104), none, .act, .mv (.tmp 10)⟩,
    ⟨(some 105), none, .act, .bin .add (.tmp 104) (.const (.int .i64 1))⟩,
    ⟨(some 10), none, .act, .mv (.tmp 105)⟩])))
def r112l0 : RCode :=
  (.seq (.seq (.region [
    ⟨(some 13), none, .act, .mv (.tmp 8)⟩,
    ⟨(some 14), none, .act, .bin .lss (.tmp 13) (.const (.int .i64 5))⟩])
  (.cond (.tmp 14)
   .skip
   (.exit 0)))
  (.seq (.block 1
   (.seq (.block 2
    (.loop r112l1))
   (.seq (.seq (.region [
     ⟨(some 35), none, .act, .mv (.tmp 7)⟩,
     ⟨(some 36), none, .act, .mv (.tmp 2)⟩,
     ⟨(some 37), none, .act, .eq false .int (.tmp 35) (.tmp 36)⟩])
   (.cond (.tmp 37)
    (.seq (.region [
      ⟨(some 6), none, .act, .mv (.const (.bool true))⟩])
    .ret)
    .skip))
   (.seq (.seq (.region [
     ⟨(some 38), none, .act, .mv (.tmp 2)⟩,
     ⟨(some 39), none, .act, .mv (.tmp 1)⟩,
     ⟨(some 40), none, .act, .bin .sub (.tmp 38) (.tmp 39)⟩,
     ⟨(some 41), none, .act, .bin .lss (.tmp 40) (.const (.int .i64 50))⟩])
   (.cond (.tmp 41)
    (.seq (.region [
      ⟨(some 6), none, .act, .mv (.const (.bool false))⟩])
    .ret)
    .skip))
   (.seq (.region [
     ⟨(some 42), none, .pure, .mv (.tmp 0)⟩,
     ⟨(some 43), none, .pure, .mv (.tmp 7)⟩,
     ⟨(some 44), none, .pure, .mv (.tmp 0)⟩,
     ⟨(some 45), none, .pure, .mv (.tmp 7)⟩,
     ⟨(some 46), none, .pure, .bin .sub (.tmp 45) (.const (.int .i64 1))⟩,
     ⟨(some 47), none, .pure, .mv (.tmp 0)⟩,
     ⟨(some 48), none, .pure, .mv (.tmp 7)⟩,
     ⟨(some 49), none, .pure, .bin .sub (.tmp 48) (.const (.int .i64 1))⟩,
     ⟨(some 50), none, .pure, .indexAddr 1 (.tmp 47) (.tmp 49)⟩,
     ⟨(some 51), none, .read, .load false 1 (.tmp 50)⟩,
     ⟨(some 52), none, .pure, .mv (.tmp 0)⟩,
     ⟨(some 53), none, .pure, .mv (.tmp 7)⟩,
     ⟨(some 54), none, .pure, .indexAddr 1 (.tmp 52) (.tmp 53)⟩,
     ⟨(some 55), none, .read, .load false 1 (.tmp 54)⟩,
     ⟨(some 56), none, .pure, .indexAddr 1 (.tmp 42) (.tmp 43)⟩,
     ⟨none, none, .act, .store 1 (.tmp 56) (.tmp 51)⟩,
     ⟨(some 57), none, .pure, .indexAddr 1 (.tmp 44) (.tmp 46)⟩,
     ⟨none, none, .act, .store 1 (.tmp 57) (.tmp 55)⟩])
   (.seq (.seq (.region [
     ⟨(some 58), none, .act, .mv (.tmp 7)⟩,
     ⟨(some 59), none, .act, .mv (.tmp 1)⟩,
     ⟨(some 60), none, .act, .bin .sub (.tmp 58) (.tmp 59)⟩,
     ⟨(some 61), none, .act, .bin .geq (.tmp 60) (.const (.int .i64 2))⟩])
   (.cond (.tmp 61)
    (.seq (.region [
      ⟨(some 62), none, .act, .mv (.tmp 7)⟩,
      ⟨(some 63), none, .act, .bin .sub (.tmp 62) (.const (.int .i64 1))⟩,
      ⟨(some 9), none, .act, .mv (.tmp 63)⟩])
    (.block 4
     (.loop r112l2)))
    .skip))
   (.seq (.region [
     ⟨(some 95), none, .act, .mv (.tmp 2)⟩,
     ⟨(some 96), none, .act, .mv (.tmp 7)⟩,
     ⟨(some 97), none, .act, .bin .sub (.tmp 95) (.tmp 96)⟩,
     ⟨(some 98), none, .act, .bin .geq (.tmp 97) (.const (.int .i64 2))⟩])
   (.cond (.tmp 98)
    (.seq (.region [
      ⟨(some 99), none, .act, .mv (.tmp 7)⟩,
      ⟨(some 100), none, .act, .bin .add (.tmp 99) (.const (.int .i64 1))⟩,
      ⟨(some 10), none, .act, .mv (.tmp 100)⟩])
    (.block 6
     (.loop r112l3)))
    .skip))))))))
  (.region [
    ⟨(some 15), none, .act, .mv (.tmp 8)⟩,
    ⟨(some 16), none, .act, .bin .add (.tmp 15) (.const (.int .i64 1))⟩,
    ⟨(some 8), none, .act, .mv (.tmp 16)⟩])))
/-- slices.partialInsertionSortOrdered[uint64] -/
def r112 : RCode :=
  (.seq (.region [
    ⟨(some 6), none, .act, .mv (.const (.bool false))⟩])
  (.seq (.region [
    ⟨(some 11), none, .act, .mv (.tmp 1)⟩,
    ⟨(some 12), none, .act, .bin .add (.tmp 11) (.const (.int .i64 1))⟩,
    ⟨(some 7), none, .act, .mv (.tmp 12)⟩])
  (.seq (.seq (.region [
    ⟨(some 8), none, .act, .mv (.const (.int .i64 0))⟩])
  (.block 0
   (.loop r112l0)))
  (.seq (.region [
    ⟨(some 6), none, .act, .mv (.const (.bool false))⟩])
  .ret))))
theorem res112 : ∃ c, Try.f112.body = some c ∧ resCode Try.prog 133 c = some r112 := ⟨_, rfl, by kernel_rfl⟩
theorem rr112 : resRes Try.prog Try.f112.results.toList = some [.tmp 6] := by kernel_rfl

theorem scanSorted_stop {d : Array SE} {e i : Nat} (h : ¬ (i < e ∧ ltE d[i]! d[i - 1]! = false)) : Go.Sort.scanSorted ltE d e i = i := by
  unfold Go.Sort.scanSorted
  rw [if_neg (by simpa using h)]
theorem scanSorted_go {d : Array SE} {e i : Nat} (h1 : i < e) (h2 : ltE d[i]! d[i - 1]! = false) : Go.Sort.scanSorted ltE d e i = Go.Sort.scanSorted ltE d e (i + 1) := by
  conv => lhs; unfold Go.Sort.scanSorted
  rw [if_pos (by simp [h1, h2])]

theorem scanSorted_loop (q cap n a e : Nat) (sp : List AV) (h : AHeap) (hn : n ≤ 1000000) (he : e ≤ n) (d : Array SE) (hd : d.size = n) (k : List RT) (Q : AV → AHeap → Prop) (x8 : AV) : ∀ (f i : Nat), e ≤ i + f → 1 ≤ i → i ≤ n + 1 →
    RRun Try.prog Try.f112 133 k (Env.get [(0, slAt q 0 n cap), (1, i64 a), (2, i64 e), (7, i64 (Go.Sort.scanSorted ltE d e i : Nat)), (8, x8)]) (HL h q d.toList sp) Q →
    RRun Try.prog Try.f112 133 (.inLoop r112l1 :: .inBlock 2 :: k) (Env.get [(0, slAt q 0 n cap), (1, i64 a), (2, i64 e), (7, i64 i), (8, x8)]) (HL h q d.toList sp) Q := by
  intro f
  induction f with
  | zero =>
    intro i hf h1 h2 hk
    rw [scanSorted_stop (by omega)] at hk
    refine RRun.inLoop ?_
    repeat' (first | (refine S.op0 rfl (S.stE rfl rfl rfl (by simp only [List.length_set, Array.length_toList]; omega) ?_)) | refine S.nilK ?_ | (refine S.op rfl ?_; first | refine S.addNN (n := 1) rfl rfl (by omega) ?_ | refine S.addNN rfl rfl (by omega) ?_ | refine S.subNN (n := 1) rfl rfl (by omega) (by omega) ?_ | refine S.subNN rfl rfl (by omega) (by omega) ?_ | refine S.ix rfl rfl (by omega) ?_ | refine S.ldE (by decide) rfl (by omega) ?_ | refine R.mv rfl ?_ | refine R.loadR rfl rfl ?_ | refine R.load (by decide) rfl (by first | assumption | exact AHeap.set_same _ _ _) rfl ?_ | refine S.addI rfl rfl (by omega) ?_ | refine S.subI rfl rfl (by omega) ?_ | refine S.addU rfl rfl ?_ | refine S.subU rfl rfl ?_ | refine S.addUc rfl (by decide) ?_ | refine S.subUc rfl (by decide) ?_ | refine R.pickT rfl rfl ?_ | refine R.pickF rfl rfl ?_ | refine R.not rfl ?_ | refine R.eqPtrNil rfl rfl ?_ | ((first | refine S.lss rfl rfl ?_ ?_ | refine S.geq rfl rfl ?_ ?_ | refine S.eqInt rfl rfl ?_ ?_) <;> intro hlt <;> try (exfalso; omega))) | (refine S.op0 rfl ?_; first | refine S.storeS rfl rfl rfl (by rfl) rfl (by first | decide | exact Nat.le_refl _ | exact Nat.le_of_ble_eq_true rfl) ?_ | refine S.store rfl rfl (by first | assumption | exact AHeap.set_same _ _ _) rfl rfl rfl (by rfl) rfl ?_) | refine S.skip rfl ?_ | refine S.skip0 rfl ?_ | refine S.seq ?_ | refine S.region ?_ | refine S.condT rfl ?_ | refine S.condF rfl ?_ | refine RRun.skip ?_ | refine RRun.block ?_ | refine RRun.inBlock ?_ | refine RRun.exit rfl ?_)
    exact S.keep [0, 1, 2, 7, 8] rfl hk
  | succ f ih =>
    intro i hf h1 h2 hk
    by_cases hie : i < e
    · cases hl : ltE d[i]! d[i - 1]! with
      | false =>
        rw [scanSorted_go hie hl] at hk
        refine RRun.inLoop ?_
        repeat' (first | (refine S.op0 rfl (S.stE rfl rfl rfl (by simp only [List.length_set, Array.length_toList]; omega) ?_)) | refine S.nilK ?_ | (refine S.op rfl ?_; first | refine S.addNN (n := 1) rfl rfl (by omega) ?_ | refine S.addNN rfl rfl (by omega) ?_ | refine S.subNN (n := 1) rfl rfl (by omega) (by omega) ?_ | refine S.subNN rfl rfl (by omega) (by omega) ?_ | refine S.ix rfl rfl (by omega) ?_ | refine S.ldE (by decide) rfl (by omega) ?_ | refine callS rfl rfl (less_is hl _) ?_ | refine R.mv rfl ?_ | refine R.loadR rfl rfl ?_ | refine R.load (by decide) rfl (by first | assumption | exact AHeap.set_same _ _ _) rfl ?_ | refine S.addI rfl rfl (by omega) ?_ | refine S.subI rfl rfl (by omega) ?_ | refine S.addU rfl rfl ?_ | refine S.subU rfl rfl ?_ | refine S.addUc rfl (by decide) ?_ | refine S.subUc rfl (by decide) ?_ | refine R.pickT rfl rfl ?_ | refine R.pickF rfl rfl ?_ | refine R.not rfl ?_ | refine R.eqPtrNil rfl rfl ?_ | ((first | refine S.lss rfl rfl ?_ ?_ | refine S.geq rfl rfl ?_ ?_ | refine S.eqInt rfl rfl ?_ ?_) <;> intro hlt <;> try (exfalso; omega))) | (refine S.op0 rfl ?_; first | refine S.storeS rfl rfl rfl (by rfl) rfl (by first | decide | exact Nat.le_refl _ | exact Nat.le_of_ble_eq_true rfl) ?_ | refine S.store rfl rfl (by first | assumption | exact AHeap.set_same _ _ _) rfl rfl rfl (by rfl) rfl ?_) | refine S.skip rfl ?_ | refine S.skip0 rfl ?_ | refine S.seq ?_ | refine S.region ?_ | refine S.condT rfl ?_ | refine S.condF rfl ?_ | refine RRun.skip ?_ | refine RRun.block ?_ | refine RRun.inBlock ?_ | refine RRun.exit rfl ?_)
        exact S.keep [0, 1, 2, 7, 8] rfl (ih (i + 1) (by omega) (by omega) (by omega) hk)
      | true =>
        rw [scanSorted_stop (by simp [hl])] at hk
        refine RRun.inLoop ?_
        repeat' (first | (refine S.op0 rfl (S.stE rfl rfl rfl (by simp only [List.length_set, Array.length_toList]; omega) ?_)) | refine S.nilK ?_ | (refine S.op rfl ?_; first | refine S.addNN (n := 1) rfl rfl (by omega) ?_ | refine S.addNN rfl rfl (by omega) ?_ | refine S.subNN (n := 1) rfl rfl (by omega) (by omega) ?_ | refine S.subNN rfl rfl (by omega) (by omega) ?_ | refine S.ix rfl rfl (by omega) ?_ | refine S.ldE (by decide) rfl (by omega) ?_ | refine callS rfl rfl (less_is hl _) ?_ | refine R.mv rfl ?_ | refine R.loadR rfl rfl ?_ | refine R.load (by decide) rfl (by first | assumption | exact AHeap.set_same _ _ _) rfl ?_ | refine S.addI rfl rfl (by omega) ?_ | refine S.subI rfl rfl (by omega) ?_ | refine S.addU rfl rfl ?_ | refine S.subU rfl rfl ?_ | refine S.addUc rfl (by decide) ?_ | refine S.subUc rfl (by decide) ?_ | refine R.pickT rfl rfl ?_ | refine R.pickF rfl rfl ?_ | refine R.not rfl ?_ | refine R.eqPtrNil rfl rfl ?_ | ((first | refine S.lss rfl rfl ?_ ?_ | refine S.geq rfl rfl ?_ ?_ | refine S.eqInt rfl rfl ?_ ?_) <;> intro hlt <;> try (exfalso; omega))) | (refine S.op0 rfl ?_; first | refine S.storeS rfl rfl rfl (by rfl) rfl (by first | decide | exact Nat.le_refl _ | exact Nat.le_of_ble_eq_true rfl) ?_ | refine S.store rfl rfl (by first | assumption | exact AHeap.set_same _ _ _) rfl rfl rfl (by rfl) rfl ?_) | refine S.skip rfl ?_ | refine S.skip0 rfl ?_ | refine S.seq ?_ | refine S.region ?_ | refine S.condT rfl ?_ | refine S.condF rfl ?_ | refine RRun.skip ?_ | refine RRun.block ?_ | refine RRun.inBlock ?_ | refine RRun.exit rfl ?_)
        exact S.keep [0, 1, 2, 7, 8] rfl hk
    · rw [scanSorted_stop (by omega)] at hk
      refine RRun.inLoop ?_
      repeat' (first | (refine S.op0 rfl (S.stE rfl rfl rfl (by simp only [List.length_set, Array.length_toList]; omega) ?_)) | refine S.nilK ?_ | (refine S.op rfl ?_; first | refine S.addNN (n := 1) rfl rfl (by omega) ?_ | refine S.addNN rfl rfl (by omega) ?_ | refine S.subNN (n := 1) rfl rfl (by omega) (by omega) ?_ | refine S.subNN rfl rfl (by omega) (by omega) ?_ | refine S.ix rfl rfl (by omega) ?_ | refine S.ldE (by decide) rfl (by omega) ?_ | refine R.mv rfl ?_ | refine R.loadR rfl rfl ?_ | refine R.load (by decide) rfl (by first | assumption | exact AHeap.set_same _ _ _) rfl ?_ | refine S.addI rfl rfl (by omega) ?_ | refine S.subI rfl rfl (by omega) ?_ | refine S.addU rfl rfl ?_ | refine S.subU rfl rfl ?_ | refine S.addUc rfl (by decide) ?_ | refine S.subUc rfl (by decide) ?_ | refine R.pickT rfl rfl ?_ | refine R.pickF rfl rfl ?_ | refine R.not rfl ?_ | refine R.eqPtrNil rfl rfl ?_ | ((first | refine S.lss rfl rfl ?_ ?_ | refine S.geq rfl rfl ?_ ?_ | refine S.eqInt rfl rfl ?_ ?_) <;> intro hlt <;> try (exfalso; omega))) | (refine S.op0 rfl ?_; first | refine S.storeS rfl rfl rfl (by rfl) rfl (by first | decide | exact Nat.le_refl _ | exact Nat.le_of_ble_eq_true rfl) ?_ | refine S.store rfl rfl (by first | assumption | exact AHeap.set_same _ _ _) rfl rfl rfl (by rfl) rfl ?_) | refine S.skip rfl ?_ | refine S.skip0 rfl ?_ | refine S.seq ?_ | refine S.region ?_ | refine S.condT rfl ?_ | refine S.condF rfl ?_ | refine RRun.skip ?_ | refine RRun.block ?_ | refine RRun.inBlock ?_ | refine RRun.exit rfl ?_)
      exact S.keep [0, 1, 2, 7, 8] rfl hk

theorem partialIns_spec (q cap n a e : Nat) (sp : List AV) (h : AHeap) (hn : n ≤ 1000000) (he : e ≤ n) (ha : a < e) (h50 : e - a < 50) (d : Array SE) (hd : d.size = n) (hB : Below ltE a e d) :
    ACalls Try.prog 112 [slAt q 0 n cap, i64 a, i64 e] (HL h q d.toList sp) (fun x h' => (∃ r : Bool, x = bl r ∧ (r = true → SortedIn ltE a e d)) ∧ h' = HL h q d.toList sp) := by
  obtain ⟨c, hc1, hc2⟩ := res112
  refine ACalls.enter Try.func112 hc1 Try.ntmps112 hc2 (Nat.le_of_ble_eq_true rfl) rfl ?_
  have hsorted : Go.Sort.scanSorted ltE d e (a + 1) = e → SortedIn ltE a e d := fun hs => by
    have h1 := Go.Sort.partialInsertionSort_holds swo_ltE d a e ha (by omega) hB
    have h2 : Go.Sort.partialInsertionSort ltE d a e = (d, true) := by
      unfold Go.Sort.partialInsertionSort Go.Sort.partialIns
      simp [hs]
    rw [h2] at h1
    exact h1.2 rfl
  repeat' (first | (refine S.op0 rfl (S.stE rfl rfl rfl (by simp only [List.length_set, Array.length_toList]; omega) ?_)) | refine S.nilK ?_ | (refine S.op rfl ?_; first | refine S.addNN (n := 1) rfl rfl (by omega) ?_ | refine S.addNN rfl rfl (by omega) ?_ | refine S.subNN (n := 1) rfl rfl (by omega) (by omega) ?_ | refine S.subNN rfl rfl (by omega) (by omega) ?_ | refine S.ix rfl rfl (by omega) ?_ | refine S.ldE (by decide) rfl (by omega) ?_ | refine R.mv rfl ?_ | refine R.loadR rfl rfl ?_ | refine R.load (by decide) rfl (by first | assumption | exact AHeap.set_same _ _ _) rfl ?_ | refine S.addI rfl rfl (by omega) ?_ | refine S.subI rfl rfl (by omega) ?_ | refine S.addU rfl rfl ?_ | refine S.subU rfl rfl ?_ | refine S.addUc rfl (by decide) ?_ | refine S.subUc rfl (by decide) ?_ | refine R.pickT rfl rfl ?_ | refine R.pickF rfl rfl ?_ | refine R.not rfl ?_ | refine R.eqPtrNil rfl rfl ?_ | ((first | refine S.lss rfl rfl ?_ ?_ | refine S.geq rfl rfl ?_ ?_ | refine S.eqInt rfl rfl ?_ ?_) <;> intro hlt <;> try (exfalso; omega))) | (refine S.op0 rfl ?_; first | refine S.storeS rfl rfl rfl (by rfl) rfl (by first | decide | exact Nat.le_refl _ | exact Nat.le_of_ble_eq_true rfl) ?_ | refine S.store rfl rfl (by first | assumption | exact AHeap.set_same _ _ _) rfl rfl rfl (by rfl) rfl ?_) | refine S.skip rfl ?_ | refine S.skip0 rfl ?_ | refine S.seq ?_ | refine S.region ?_ | refine S.condT rfl ?_ | refine S.condF rfl ?_ | refine RRun.skip ?_ | refine RRun.block ?_ | refine RRun.inBlock ?_ | refine RRun.exit rfl ?_)
  refine RRun.loopIn (S.keep [0, 1, 2, 7, 8] rfl ?_)
  refine RRun.inLoop ?_
  unfold r112l0
  repeat' (first | refine S.nilK ?_ | (refine S.op rfl ?_; first | refine R.mv rfl ?_ | refine R.loadR rfl rfl ?_ | refine R.load (by decide) rfl (by first | assumption | exact AHeap.set_same _ _ _) rfl ?_ | refine S.addI rfl rfl (by omega) ?_ | refine S.subI rfl rfl (by omega) ?_ | refine S.addU rfl rfl ?_ | refine S.subU rfl rfl ?_ | refine S.addUc rfl (by decide) ?_ | refine S.subUc rfl (by decide) ?_ | refine R.pickT rfl rfl ?_ | refine R.pickF rfl rfl ?_ | refine R.not rfl ?_ | refine R.eqPtrNil rfl rfl ?_ | ((first | refine S.lss rfl rfl ?_ ?_ | refine S.geq rfl rfl ?_ ?_ | refine S.eqInt rfl rfl ?_ ?_) <;> intro hlt <;> try (exfalso; omega))) | (refine S.op0 rfl ?_; first | refine S.storeS rfl rfl rfl (by rfl) rfl (by first | decide | exact Nat.le_refl _ | exact Nat.le_of_ble_eq_true rfl) ?_ | refine S.store rfl rfl (by first | assumption | exact AHeap.set_same _ _ _) rfl rfl rfl (by rfl) rfl ?_) | refine S.skip rfl ?_ | refine S.skip0 rfl ?_ | refine S.seq ?_ | refine S.region ?_ | refine S.condT rfl ?_ | refine S.condF rfl ?_ | refine RRun.skip ?_ | refine RRun.block ?_ | refine RRun.inBlock ?_ | refine RRun.exit rfl ?_)
  refine RRun.loopIn (S.keep [0, 1, 2, 7, 8] rfl (scanSorted_loop q cap n a e sp h hn he d hd _ _ _ e (a + 1) (by omega) (by omega) (by omega) ?_))
  generalize Go.Sort.scanSorted ltE d e (a + 1) = i2 at *
  by_cases hi : i2 = e
  ·
    repeat' (first | (refine S.op0 rfl (S.stE rfl rfl rfl (by simp only [List.length_set, Array.length_toList]; omega) ?_)) | refine S.nilK ?_ | (refine S.op rfl ?_; first | refine S.addNN (n := 1) rfl rfl (by omega) ?_ | refine S.addNN rfl rfl (by omega) ?_ | refine S.subNN (n := 1) rfl rfl (by omega) (by omega) ?_ | refine S.subNN rfl rfl (by omega) (by omega) ?_ | refine S.ix rfl rfl (by omega) ?_ | refine S.ldE (by decide) rfl (by omega) ?_ | refine R.mv rfl ?_ | refine R.loadR rfl rfl ?_ | refine R.load (by decide) rfl (by first | assumption | exact AHeap.set_same _ _ _) rfl ?_ | refine S.addI rfl rfl (by omega) ?_ | refine S.subI rfl rfl (by omega) ?_ | refine S.addU rfl rfl ?_ | refine S.subU rfl rfl ?_ | refine S.addUc rfl (by decide) ?_ | refine S.subUc rfl (by decide) ?_ | refine R.pickT rfl rfl ?_ | refine R.pickF rfl rfl ?_ | refine R.not rfl ?_ | refine R.eqPtrNil rfl rfl ?_ | ((first | refine S.lss rfl rfl ?_ ?_ | refine S.geq rfl rfl ?_ ?_ | refine S.eqInt rfl rfl ?_ ?_) <;> intro hlt <;> try (exfalso; omega))) | (refine S.op0 rfl ?_; first | refine S.storeS rfl rfl rfl (by rfl) rfl (by first | decide | exact Nat.le_refl _ | exact Nat.le_of_ble_eq_true rfl) ?_ | refine S.store rfl rfl (by first | assumption | exact AHeap.set_same _ _ _) rfl rfl rfl (by rfl) rfl ?_) | refine S.skip rfl ?_ | refine S.skip0 rfl ?_ | refine S.seq ?_ | refine S.region ?_ | refine S.condT rfl ?_ | refine S.condF rfl ?_ | refine RRun.skip ?_ | refine RRun.block ?_ | refine RRun.inBlock ?_ | refine RRun.exit rfl ?_)
    apply S.ret rr112
    case hx => repeat (first | exact ResAt.nil | apply ResAt.tmp rfl | apply ResAt.cellA rfl (by first | assumption | exact AHeap.set_same _ _ _) (by rfl) | apply ResAt.cell1 rfl (by first | assumption | exact AHeap.set_same _ _ _) (by rfl))
    exact ⟨⟨true, rfl, fun _ => hsorted hi⟩, rfl⟩
  ·
    repeat' (first | (refine S.op0 rfl (S.stE rfl rfl rfl (by simp only [List.length_set, Array.length_toList]; omega) ?_)) | refine S.nilK ?_ | (refine S.op rfl ?_; first | refine S.addNN (n := 1) rfl rfl (by omega) ?_ | refine S.addNN rfl rfl (by omega) ?_ | refine S.subNN (n := 1) rfl rfl (by omega) (by omega) ?_ | refine S.subNN rfl rfl (by omega) (by omega) ?_ | refine S.ix rfl rfl (by omega) ?_ | refine S.ldE (by decide) rfl (by omega) ?_ | refine R.mv rfl ?_ | refine R.loadR rfl rfl ?_ | refine R.load (by decide) rfl (by first | assumption | exact AHeap.set_same _ _ _) rfl ?_ | refine S.addI rfl rfl (by omega) ?_ | refine S.subI rfl rfl (by omega) ?_ | refine S.addU rfl rfl ?_ | refine S.subU rfl rfl ?_ | refine S.addUc rfl (by decide) ?_ | refine S.subUc rfl (by decide) ?_ | refine R.pickT rfl rfl ?_ | refine R.pickF rfl rfl ?_ | refine R.not rfl ?_ | refine R.eqPtrNil rfl rfl ?_ | ((first | refine S.lss rfl rfl ?_ ?_ | refine S.geq rfl rfl ?_ ?_ | refine S.eqInt rfl rfl ?_ ?_) <;> intro hlt <;> try (exfalso; omega))) | (refine S.op0 rfl ?_; first | refine S.storeS rfl rfl rfl (by rfl) rfl (by first | decide | exact Nat.le_refl _ | exact Nat.le_of_ble_eq_true rfl) ?_ | refine S.store rfl rfl (by first | assumption | exact AHeap.set_same _ _ _) rfl rfl rfl (by rfl) rfl ?_) | refine S.skip rfl ?_ | refine S.skip0 rfl ?_ | refine S.seq ?_ | refine S.region ?_ | refine S.condT rfl ?_ | refine S.condF rfl ?_ | refine RRun.skip ?_ | refine RRun.block ?_ | refine RRun.inBlock ?_ | refine RRun.exit rfl ?_)
    apply S.ret rr112
    case hx => repeat (first | exact ResAt.nil | apply ResAt.tmp rfl | apply ResAt.cellA rfl (by first | assumption | exact AHeap.set_same _ _ _) (by rfl) | apply ResAt.cell1 rfl (by first | assumption | exact AHeap.set_same _ _ _) (by rfl))
    exact ⟨⟨false, rfl, fun e => by cases e⟩, rfl⟩

end Go.Proofs.Ytnmgamcmjjngcaa
