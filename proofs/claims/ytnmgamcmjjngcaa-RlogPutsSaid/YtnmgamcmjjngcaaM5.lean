import Derived.Test.YtnmgamcmjjngcaaM4
set_option linter.unusedVariables false
set_option linter.unusedSimpArgs false
namespace Go.Proofs.Ytnmgamcmjjngcaa
open Go.Av
open Go.Sort (swp PermIn SortedIn Below SWO scanUp scanDown)


theorem scanUp_stop {p : SE → Bool} {d : Array SE} {j i : Nat} (h : ¬ (i ≤ j ∧ p d[i]! = true)) : scanUp p d j i = i := by
  unfold scanUp
  rw [if_neg (by simpa using h)]
theorem scanUp_go {p : SE → Bool} {d : Array SE} {j i : Nat} (h1 : i ≤ j) (h2 : p d[i]! = true) : scanUp p d j i = scanUp p d j (i + 1) := by
  conv => lhs; unfold scanUp
  rw [if_pos (by simp [h1, h2])]
theorem scanDown_stop {p : SE → Bool} {d : Array SE} {i j : Nat} (h : ¬ (i ≤ j ∧ p d[j]! = true)) : scanDown p d i j = j := by
  cases j with
  | zero => rfl
  | succ j => unfold scanDown; rw [if_neg (by simpa using h)]
theorem scanDown_go {p : SE → Bool} {d : Array SE} {i j : Nat} (h1 : i ≤ j + 1) (h2 : p d[j + 1]! = true) : scanDown p d i (j + 1) = scanDown p d i j := by
  conv => lhs; unfold scanDown
  rw [if_pos (by simp [h1, h2])]
theorem scanUp_ge (p : SE → Bool) (d : Array SE) (j : Nat) : ∀ (f i : Nat), j + 1 ≤ i + f → i ≤ scanUp p d j i ∧ (scanUp p d j i ≤ i ∨ scanUp p d j i ≤ j + 1) := by
  intro f
  induction f with
  | zero => intro i hf; rw [scanUp_stop (by omega)]; omega
  | succ f ih =>
    intro i hf
    by_cases h : i ≤ j ∧ p d[i]! = true
    · rw [scanUp_go h.1 h.2]
      have := ih (i + 1) (by omega)
      omega
    · rw [scanUp_stop h]; omega
theorem scanDown_le (p : SE → Bool) (d : Array SE) (i : Nat) : ∀ (j : Nat), scanDown p d i j ≤ j
  | 0 => Nat.le_refl _
  | j + 1 => by
    by_cases h : i ≤ j + 1 ∧ p d[j + 1]! = true
    · rw [scanDown_go h.1 h.2]; have := scanDown_le p d i j; omega
    · rw [scanDown_stop h]; omega
theorem scanDown_gt (p : SE → Bool) (d : Array SE) (i : Nat) (hi : 1 ≤ i) : ∀ (j : Nat), i ≤ j + 1 → i ≤ scanDown p d i j + 1
  | 0, h => by unfold scanDown; omega
  | j + 1, h => by
    by_cases h : i ≤ j + 1 ∧ p d[j + 1]! = true
    · rw [scanDown_go h.1 h.2]; exact scanDown_gt p d i hi j (by omega)
    · rw [scanDown_stop h]; omega

/-! ### partition -/
def r115l0 : RCode :=
  (.seq (.seq (.region [
    ⟨(some 30), none, .pure, .mv (.tmp 10)⟩,
    ⟨(some 31), none, .pure, .mv (.tmp 11)⟩,
    ⟨(some 32), none, .pure, .bin .leq (.tmp 30) (.tmp 31)⟩,
    ⟨(some 33), none, .pure, .mv (.tmp 32)⟩,
    ⟨(some 34), (some (33, true)), .pure, .mv (.tmp 0)⟩,
    ⟨(some 35), (some (33, true)), .pure, .mv (.tmp 10)⟩,
    ⟨(some 36), (some (33, true)), .pure, .indexAddr 1 (.tmp 34) (.tmp 35)⟩,
    ⟨(some 37), (some (33, true)), .read, .load false 1 (.tmp 36)⟩,
    ⟨(some 38), (some (33, true)), .pure, .mv (.tmp 0)⟩,
    ⟨(some 39), (some (33, true)), .pure, .mv (.tmp 1)⟩,
    ⟨(some 40), (some (33, true)), .pure, .indexAddr 1 (.tmp 38) (.tmp 39)⟩,
    ⟨(some 41), (some (33, true)), .read, .load false 1 (.tmp 40)⟩,
    ⟨(some 42), (some (33, true)), .act, .call 113 [(.tmp 37), (.tmp 41)]⟩,
    ⟨(some 43), none, .pure, .pick (.tmp 33) (.tmp 42) (.const (.bool false))⟩])
  (.cond (.tmp 43)
   .skip
   (.exit 0)))
  (.block 1
   (.region [
     ⟨(some 44), none, .act, .mv (.tmp 10)⟩,
     ⟨(some 45), none, .act, .bin .add (.tmp 44) (.const (.int .i64 1))⟩,
     ⟨(some 10), none, .act, .mv (.tmp 45)⟩])))
def r115l1 : RCode :=
  (.seq (.seq (.region [
    ⟨(some 46), none, .pure, .mv (.tmp 10)⟩,
    ⟨(some 47), none, .pure, .mv (.tmp 11)⟩,
    ⟨(some 48), none, .pure, .bin .leq (.tmp 46) (.tmp 47)⟩,
    ⟨(some 49), none, .pure, .mv (.tmp 48)⟩,
    ⟨(some 50), (some (49, true)), .pure, .mv (.tmp 0)⟩,
    ⟨(some 51), (some (49, true)), .pure, .mv (.tmp 11)⟩,
    ⟨(some 52), (some (49, true)), .pure, .indexAddr 1 (.tmp 50) (.tmp 51)⟩,
    ⟨(some 53), (some (49, true)), .read, .load false 1 (.tmp 52)⟩,
    ⟨(some 54), (some (49, true)), .pure, .mv (.tmp 0)⟩,
    ⟨(some 55), (some (49, true)), .pure, .mv (.tmp 1)⟩,
    ⟨(some 56), (some (49, true)), .pure, .indexAddr 1 (.tmp 54) (.tmp 55)⟩,
    ⟨(some 57), (some (49, true)), .read, .load false 1 (.tmp 56)⟩,
    ⟨(some 58), (some (49, true)), .act, .call 113 [(.tmp 53), (.tmp 57)]⟩,
    ⟨(some 59), (some (49, true)), .pure, .un .not (.tmp 58)⟩,
    ⟨(some 60), none, .pure, .pick (.tmp 49) (.tmp 59) (.const (.bool false))⟩])
  (.cond (.tmp 60)
   .skip
   (.exit 2)))
  (.block 3
   (.region [
     ⟨(some 61), none, .act, .mv (.tmp 11)⟩,
     ⟨(some 62), none, .act, .bin .sub (.tmp 61) (.const (.int .i64 1))⟩,
     ⟨(some 11), none, .act, .mv (.tmp 62)⟩])))
def r115l3 : RCode :=
  (.seq (.seq (.region [
    ⟨(some 99), none, .pure, .mv (.tmp 10)⟩,
    ⟨(some 100), none, .pure, .mv (.tmp 11)⟩,
    ⟨(some 101), none, .pure, .bin .leq (.tmp 99) (.tmp 100)⟩,
    ⟨(some 102), none, .pure, .mv (.tmp 101)⟩,
    ⟨(some 103), (some (102, true)), .pure, .mv (.tmp 0)⟩,
    ⟨(some 104), (some (102, true)), .pure, .mv (.tmp 10)⟩,
    ⟨(some 105), (some (102, true)), .pure, .indexAddr 1 (.tmp 103) (.tmp 104)⟩,
    ⟨(some 106), (some (102, true)), .read, .load false 1 (.tmp 105)⟩,
    ⟨(some 107), (some (102, true)), .pure, .mv (.tmp 0)⟩,
    ⟨(some 108), (some (102, true)), .pure, .mv (.tmp 1)⟩,
    ⟨(some 109), (some (102, true)), .pure, .indexAddr 1 (.tmp 107) (.tmp 108)⟩,
    ⟨(some 110), (some (102, true)), .read, .load false 1 (.tmp 109)⟩,
    ⟨(some 111), (some (102, true)), .act, .call 113 [(.tmp 106), (.tmp 110)]⟩,
    ⟨(some 112), none, .pure, .pick (.tmp 102) (.tmp 111) (.const (.bool false))⟩])
  (.cond (.tmp 112)
   .skip
   (.exit 6)))
  (.block 7
   (.region [
     ⟨(some 113), none, .act, .mv (.tmp 10)⟩,
     ⟨(some 114), none, .act, .bin .add (.tmp 113) (.const (.int .i64 1))⟩,
     ⟨(some 10), none, .act, .mv (.tmp 114)⟩])))
def r115l4 : RCode :=
  (.seq (.seq (.region [
    ⟨(some 115), none, .pure, .mv (.tmp 10)⟩,
    ⟨(some 116), none, .pure, .mv (.tmp 11)⟩,
    ⟨(some 117), none, .pure, .bin .leq (.tmp 115) (.tmp 116)⟩,
    ⟨(some 118), none, .pure, .mv (.tmp 117)⟩,
    ⟨(some 119), (some (118, true)), .pure, .mv (.tmp 0)⟩,
    ⟨(some 120), (some (118, true)), .pure, .mv (.tmp 11)⟩,
    ⟨(some 121), (some (118, true)), .pure, .indexAddr 1 (.tmp 119) (.tmp 120)⟩,
    ⟨(some 122), (some (118, true)), .read, .load false 1 (.tmp 121)⟩,
    ⟨(some 123), (some (118, true)), .pure, .mv (.tmp 0)⟩,
    ⟨(some 124), (some (118, true)), .pure, .mv (.tmp 1)⟩,
    ⟨(some 125), (some (118, true)), .pure, .indexAddr 1 (.tmp 123) (.tmp 124)⟩,
    ⟨(some 126), (some (118, true)), .read, .load false 1 (.tmp 125)⟩,
    ⟨(some 127), (some (118, true)), .act, .call 113 [(.tmp 122), (.tmp 126)]⟩,
    ⟨(some 128), (some (118, true)), .pure, .un .not (.tmp 127)⟩,
    ⟨(some 129), none, .pure, .pick (.tmp 118) (.tmp 128) (.const (.bool false))⟩])
  (.cond (.tmp 129)
   .skip
   (.exit 8)))
  (.block 9
   (.region [
     ⟨(some 130), none, .act, .mv (.tmp 11)⟩,
     ⟨(some 131), none, .act, .bin .sub (.tmp 130) (.const (.int .i64 1))⟩,
     ⟨(some 11), none, .act, .mv (.tmp 131)⟩])))
def r115l2 : RCode :=
  (.block 5
   (.seq (.block 6
    (.loop r115l3))
   (.seq (.block 8
    (.loop r115l4))
   (.seq (.seq (.region [
     ⟨(some 132), none, .act, .mv (.tmp 10)⟩,
     ⟨(some 133), none, .act, .mv (.tmp 11)⟩,
     ⟨(some 134), none, .act, .bin .gtr (.tmp 132) (.tmp 133)⟩])
   (.cond (.tmp 134)
    (.exit 4)
    .skip))
   (.seq (.region [
     ⟨(some 135), none, .pure, .mv (.tmp 0)⟩,
     ⟨(some 136), none, .pure, .mv (.tmp 10)⟩,
     ⟨(some 137), none, .pure, .mv (.tmp 0)⟩,
     ⟨(some 138), none, .pure, .mv (.tmp 11)⟩,
     ⟨(some 139), none, .pure, .mv (.tmp 0)⟩,
     ⟨(some 140), none, .pure, .mv (.tmp 11)⟩,
     ⟨(some 141), none, .pure, .indexAddr 1 (.tmp 139) (.tmp 140)⟩,
     ⟨(some 142), none, .read, .load false 1 (.tmp 141)⟩,
     ⟨(some 143), none, .pure, .mv (.tmp 0)⟩,
     ⟨(some 144), none, .pure, .mv (.tmp 10)⟩,
     ⟨(some 145), none, .pure, .indexAddr 1 (.tmp 143) (.tmp 144)⟩,
     ⟨(some 146), none, .read, .load false 1 (.tmp 145)⟩,
     ⟨(some 147), none, .pure, .indexAddr 1 (.tmp 135) (.tmp 136)⟩,
     ⟨none, none, .act, .store 1 (.tmp 147) (.tmp 142)⟩,
     ⟨(some 148), none, .pure, .indexAddr 1 (.tmp 137) (.tmp 138)⟩,
     ⟨none, none, .act, .store 1 (.tmp 148) (.tmp 146)⟩])
   (.seq (.region [
     ⟨(some 149), none, .act, .mv (.tmp 10)⟩,
     ⟨(some 150), none, .act, .bin .add (.tmp 149) (.const (.int .i64 1))⟩,
     ⟨(some 10), none, .act, .mv (.tmp 150)⟩])
   (.region [
     ⟨(some 151), none, .act, .mv (.tmp 11)⟩,
     ⟨(some 152), none, .act, .bin .sub (.tmp 151) (.const (.int .i64 1))⟩,
     ⟨(some 11), none, .act, .mv (.tmp 152)⟩])))))))
/-- slices.partitionOrdered[uint64] -/
def r115 : RCode :=
  (.seq (.region [
    ⟨(some 8), none, .act, .mv (.const (.int .i64 0))⟩,
    ⟨(some 9), none, .act, .mv (.const (.bool false))⟩])
  (.seq (.region [
    ⟨(some 12), none, .pure, .mv (.tmp 0)⟩,
    ⟨(some 13), none, .pure, .mv (.tmp 1)⟩,
    ⟨(some 14), none, .pure, .mv (.tmp 0)⟩,
    ⟨(some 15), none, .pure, .mv (.tmp 3)⟩,
    ⟨(some 16), none, .pure, .mv (.tmp 0)⟩,
    ⟨(some 17), none, .pure, .mv (.tmp 3)⟩,
    ⟨(some 18), none, .pure, .indexAddr 1 (.tmp 16) (.tmp 17)⟩,
    ⟨(some 19), none, .read, .load false 1 (.tmp 18)⟩,
    ⟨(some 20), none, .pure, .mv (.tmp 0)⟩,
    ⟨(some 21), none, .pure, .mv (.tmp 1)⟩,
    ⟨(some 22), none, .pure, .indexAddr 1 (.tmp 20) (.tmp 21)⟩,
    ⟨(some 23), none, .read, .load false 1 (.tmp 22)⟩,
    ⟨(some 24), none, .pure, .indexAddr 1 (.tmp 12) (.tmp 13)⟩,
    ⟨none, none, .act, .store 1 (.tmp 24) (.tmp 19)⟩,
    ⟨(some 25), none, .pure, .indexAddr 1 (.tmp 14) (.tmp 15)⟩,
    ⟨none, none, .act, .store 1 (.tmp 25) (.tmp 23)⟩])
  (.seq (.region [
    ⟨(some 26), none, .act, .mv (.tmp 1)⟩,
    ⟨(some 27), none, .act, .bin .add (.tmp 26) (.const (.int .i64 1))⟩,
    ⟨(some 28), none, .act, .mv (.tmp 2)⟩,
    ⟨(some 29), none, .act, .bin .sub (.tmp 28) (.const (.int .i64 1))⟩,
    ⟨(some 10), none, .act, .mv (.tmp 27)⟩,
    ⟨(some 11), none, .act, .mv (.tmp 29)⟩])
  (.seq (.block 0
   (.loop r115l0))
  (.seq (.block 2
   (.loop r115l1))
  (.seq (.seq (.region [
    ⟨(some 63), none, .act, .mv (.tmp 10)⟩,
    ⟨(some 64), none, .act, .mv (.tmp 11)⟩,
    ⟨(some 65), none, .act, .bin .gtr (.tmp 63) (.tmp 64)⟩])
  (.cond (.tmp 65)
   (.seq (.region [
     ⟨(some 66), none, .pure, .mv (.tmp 0)⟩,
     ⟨(some 67), none, .pure, .mv (.tmp 11)⟩,
     ⟨(some 68), none, .pure, .mv (.tmp 0)⟩,
     ⟨(some 69), none, .pure, .mv (.tmp 1)⟩,
     ⟨(some 70), none, .pure, .mv (.tmp 0)⟩,
     ⟨(some 71), none, .pure, .mv (.tmp 1)⟩,
     ⟨(some 72), none, .pure, .indexAddr 1 (.tmp 70) (.tmp 71)⟩,
     ⟨(some 73), none, .read, .load false 1 (.tmp 72)⟩,
     ⟨(some 74), none, .pure, .mv (.tmp 0)⟩,
     ⟨(some 75), none, .pure, .mv (.tmp 11)⟩,
     ⟨(some 76), none, .pure, .indexAddr 1 (.tmp 74) (.tmp 75)⟩,
     ⟨(some 77), none, .read, .load false 1 (.tmp 76)⟩,
     ⟨(some 78), none, .pure, .indexAddr 1 (.tmp 66) (.tmp 67)⟩,
     ⟨none, none, .act, .store 1 (.tmp 78) (.tmp 73)⟩,
     ⟨(some 79), none, .pure, .indexAddr 1 (.tmp 68) (.tmp 69)⟩,
     ⟨none, none, .act, .store 1 (.tmp 79) (.tmp 77)⟩])
   (.seq (.region [
     ⟨(some 80), none, .act, .mv (.tmp 11)⟩,
     ⟨(some 8), none, .act, .mv (.tmp 80)⟩,
     ⟨(some 9), none, .act, .mv (.const (.bool true))⟩])
   .ret))
   .skip))
  (.seq (.region [
    ⟨(some 81), none, .pure, .mv (.tmp 0)⟩,
    ⟨(some 82), none, .pure, .mv (.tmp 10)⟩,
    ⟨(some 83), none, .pure, .mv (.tmp 0)⟩,
    ⟨(some 84), none, .pure, .mv (.tmp 11)⟩,
    ⟨(some 85), none, .pure, .mv (.tmp 0)⟩,
    ⟨(some 86), none, .pure, .mv (.tmp 11)⟩,
    ⟨(some 87), none, .pure, .indexAddr 1 (.tmp 85) (.tmp 86)⟩,
    ⟨(some 88), none, .read, .load false 1 (.tmp 87)⟩,
    ⟨(some 89), none, .pure, .mv (.tmp 0)⟩,
    ⟨(some 90), none, .pure, .mv (.tmp 10)⟩,
    ⟨(some 91), none, .pure, .indexAddr 1 (.tmp 89) (.tmp 90)⟩,
    ⟨(some 92), none, .read, .load false 1 (.tmp 91)⟩,
    ⟨(some 93), none, .pure, .indexAddr 1 (.tmp 81) (.tmp 82)⟩,
    ⟨none, none, .act, .store 1 (.tmp 93) (.tmp 88)⟩,
    ⟨(some 94), none, .pure, .indexAddr 1 (.tmp 83) (.tmp 84)⟩,
    ⟨none, none, .act, .store 1 (.tmp 94) (.tmp 92)⟩])
  (.seq (.region [
    ⟨(some 95), none, .act, .mv (.tmp 10)⟩,
    ⟨(some 96), none, .act, .bin .add (.tmp 95) (.const (.int .i64 1))⟩,
    ⟨(some 10), none, .act, .mv (.tmp 96)⟩])
  (.seq (.region [
    ⟨(some 97), none, .act, .mv (.tmp 11)⟩,
    ⟨(some 98), none, .act, .bin .sub (.tmp 97) (.const (.int .i64 1))⟩,
    ⟨(some 11), none, .act, .mv (.tmp 98)⟩])
  (.seq (.block 4
   (.loop r115l2))
  (.seq (.region [
    ⟨(some 153), none, .pure, .mv (.tmp 0)⟩,
    ⟨(some 154), none, .pure, .mv (.tmp 11)⟩,
    ⟨(some 155), none, .pure, .mv (.tmp 0)⟩,
    ⟨(some 156), none, .pure, .mv (.tmp 1)⟩,
    ⟨(some 157), none, .pure, .mv (.tmp 0)⟩,
    ⟨(some 158), none, .pure, .mv (.tmp 1)⟩,
    ⟨(some 159), none, .pure, .indexAddr 1 (.tmp 157) (.tmp 158)⟩,
    ⟨(some 160), none, .read, .load false 1 (.tmp 159)⟩,
    ⟨(some 161), none, .pure, .mv (.tmp 0)⟩,
    ⟨(some 162), none, .pure, .mv (.tmp 11)⟩,
    ⟨(some 163), none, .pure, .indexAddr 1 (.tmp 161) (.tmp 162)⟩,
    ⟨(some 164), none, .read, .load false 1 (.tmp 163)⟩,
    ⟨(some 165), none, .pure, .indexAddr 1 (.tmp 153) (.tmp 154)⟩,
    ⟨none, none, .act, .store 1 (.tmp 165) (.tmp 160)⟩,
    ⟨(some 166), none, .pure, .indexAddr 1 (.tmp 155) (.tmp 156)⟩,
    ⟨none, none, .act, .store 1 (.tmp 166) (.tmp 164)⟩])
  (.seq (.region [
    ⟨(some 167), none, .act, .mv (.tmp 11)⟩,
    ⟨(some 8), none, .act, .mv (.tmp 167)⟩,
    ⟨(some 9), none, .act, .mv (.const (.bool false))⟩])
  .ret))))))))))))
theorem res115 : ∃ c, Try.f115.body = some c ∧ resCode Try.prog 168 c = some r115 := ⟨_, rfl, by kernel_rfl⟩
theorem rr115 : resRes Try.prog Try.f115.results.toList = some [.tmp 8, .tmp 9] := by kernel_rfl

theorem scanUp_p1 (q cap n a j : Nat) (sp : List AV) (h : AHeap) (hn : n ≤ 1000000) (ha : a < n) (hj : j < n) (d : Array SE) (hd : d.size = n) (k : List RT) (Q : AV → AHeap → Prop) : ∀ (f i : Nat), j + 1 ≤ i + f → i ≤ n →
    RRun Try.prog Try.f115 168 k (Env.get [(0, slAt q 0 n cap), (1, i64 a), (10, i64 (scanUp (fun x => ltE x d[a]!) d j i : Nat)), (11, i64 j)]) (HL h q d.toList sp) Q →
    RRun Try.prog Try.f115 168 (.inLoop r115l0 :: .inBlock 0 :: k) (Env.get [(0, slAt q 0 n cap), (1, i64 a), (10, i64 i), (11, i64 j)]) (HL h q d.toList sp) Q := by
  intro f
  induction f with
  | zero =>
    intro i hf hin hk
    rw [scanUp_stop (by omega)] at hk
    refine RRun.inLoop ?_
    repeat' (first | (refine S.op0 rfl (S.stE rfl rfl rfl (by simp only [List.length_set, Array.length_toList]; omega) ?_)) | refine S.nilK ?_ | (refine S.op rfl ?_; first | refine S.addNN (n := 1) rfl rfl (by omega) ?_ | refine S.addNN rfl rfl (by omega) ?_ | refine S.subNN (n := 1) rfl rfl (by omega) (by omega) ?_ | refine S.subNN rfl rfl (by omega) (by omega) ?_ | refine S.ix rfl rfl (by omega) ?_ | refine S.ldE (by decide) rfl (by omega) ?_ | refine R.mv rfl ?_ | refine R.loadR rfl rfl ?_ | refine R.load (by decide) rfl (by first | assumption | exact AHeap.set_same _ _ _) rfl ?_ | refine S.addI rfl rfl (by omega) ?_ | refine S.subI rfl rfl (by omega) ?_ | refine S.addU rfl rfl ?_ | refine S.subU rfl rfl ?_ | refine S.addUc rfl (by decide) ?_ | refine S.subUc rfl (by decide) ?_ | refine R.pickT rfl rfl ?_ | refine R.pickF rfl rfl ?_ | refine R.not rfl ?_ | ((first | refine S.gtr rfl rfl ?_ ?_ | refine S.leq rfl rfl ?_ ?_) <;> intro hlt <;> try (exfalso; omega))) | (refine S.op0 rfl ?_; first | refine S.storeS rfl rfl rfl (by rfl) rfl (by first | decide | exact Nat.le_refl _ | exact Nat.le_of_ble_eq_true rfl) ?_ | refine S.store rfl rfl (by first | assumption | exact AHeap.set_same _ _ _) rfl rfl rfl (by rfl) rfl ?_) | refine S.skip rfl ?_ | refine S.skip0 rfl ?_ | refine S.seq ?_ | refine S.region ?_ | refine S.condT rfl ?_ | refine S.condF rfl ?_ | refine RRun.skip ?_ | refine RRun.block ?_ | refine RRun.inBlock ?_ | refine RRun.exit rfl ?_)
    exact S.keep [0, 1, 10, 11] rfl hk
  | succ f ih =>
    intro i hf hin hk
    by_cases hij : i ≤ j
    · cases hl : ltE d[i]! d[a]! with
      | true =>
        rw [scanUp_go hij (by simp [hl])] at hk
        refine RRun.inLoop ?_
        repeat' (first | (refine S.op0 rfl (S.stE rfl rfl rfl (by simp only [List.length_set, Array.length_toList]; omega) ?_)) | refine S.nilK ?_ | (refine S.op rfl ?_; first | refine S.addNN (n := 1) rfl rfl (by omega) ?_ | refine S.addNN rfl rfl (by omega) ?_ | refine S.subNN (n := 1) rfl rfl (by omega) (by omega) ?_ | refine S.subNN rfl rfl (by omega) (by omega) ?_ | refine S.ix rfl rfl (by omega) ?_ | refine S.ldE (by decide) rfl (by omega) ?_ | refine callS rfl rfl (less_is hl _) ?_ | refine R.mv rfl ?_ | refine R.loadR rfl rfl ?_ | refine R.load (by decide) rfl (by first | assumption | exact AHeap.set_same _ _ _) rfl ?_ | refine S.addI rfl rfl (by omega) ?_ | refine S.subI rfl rfl (by omega) ?_ | refine S.addU rfl rfl ?_ | refine S.subU rfl rfl ?_ | refine S.addUc rfl (by decide) ?_ | refine S.subUc rfl (by decide) ?_ | refine R.pickT rfl rfl ?_ | refine R.pickF rfl rfl ?_ | refine R.not rfl ?_ | ((first | refine S.gtr rfl rfl ?_ ?_ | refine S.leq rfl rfl ?_ ?_) <;> intro hlt <;> try (exfalso; omega))) | (refine S.op0 rfl ?_; first | refine S.storeS rfl rfl rfl (by rfl) rfl (by first | decide | exact Nat.le_refl _ | exact Nat.le_of_ble_eq_true rfl) ?_ | refine S.store rfl rfl (by first | assumption | exact AHeap.set_same _ _ _) rfl rfl rfl (by rfl) rfl ?_) | refine S.skip rfl ?_ | refine S.skip0 rfl ?_ | refine S.seq ?_ | refine S.region ?_ | refine S.condT rfl ?_ | refine S.condF rfl ?_ | refine RRun.skip ?_ | refine RRun.block ?_ | refine RRun.inBlock ?_ | refine RRun.exit rfl ?_)
        exact S.keep [0, 1, 10, 11] rfl (ih (i + 1) (by omega) (by omega) hk)
      | false =>
        rw [scanUp_stop (by simp [hl])] at hk
        refine RRun.inLoop ?_
        repeat' (first | (refine S.op0 rfl (S.stE rfl rfl rfl (by simp only [List.length_set, Array.length_toList]; omega) ?_)) | refine S.nilK ?_ | (refine S.op rfl ?_; first | refine S.addNN (n := 1) rfl rfl (by omega) ?_ | refine S.addNN rfl rfl (by omega) ?_ | refine S.subNN (n := 1) rfl rfl (by omega) (by omega) ?_ | refine S.subNN rfl rfl (by omega) (by omega) ?_ | refine S.ix rfl rfl (by omega) ?_ | refine S.ldE (by decide) rfl (by omega) ?_ | refine callS rfl rfl (less_is hl _) ?_ | refine R.mv rfl ?_ | refine R.loadR rfl rfl ?_ | refine R.load (by decide) rfl (by first | assumption | exact AHeap.set_same _ _ _) rfl ?_ | refine S.addI rfl rfl (by omega) ?_ | refine S.subI rfl rfl (by omega) ?_ | refine S.addU rfl rfl ?_ | refine S.subU rfl rfl ?_ | refine S.addUc rfl (by decide) ?_ | refine S.subUc rfl (by decide) ?_ | refine R.pickT rfl rfl ?_ | refine R.pickF rfl rfl ?_ | refine R.not rfl ?_ | ((first | refine S.gtr rfl rfl ?_ ?_ | refine S.leq rfl rfl ?_ ?_) <;> intro hlt <;> try (exfalso; omega))) | (refine S.op0 rfl ?_; first | refine S.storeS rfl rfl rfl (by rfl) rfl (by first | decide | exact Nat.le_refl _ | exact Nat.le_of_ble_eq_true rfl) ?_ | refine S.store rfl rfl (by first | assumption | exact AHeap.set_same _ _ _) rfl rfl rfl (by rfl) rfl ?_) | refine S.skip rfl ?_ | refine S.skip0 rfl ?_ | refine S.seq ?_ | refine S.region ?_ | refine S.condT rfl ?_ | refine S.condF rfl ?_ | refine RRun.skip ?_ | refine RRun.block ?_ | refine RRun.inBlock ?_ | refine RRun.exit rfl ?_)
        exact S.keep [0, 1, 10, 11] rfl hk
    · rw [scanUp_stop (by omega)] at hk
      refine RRun.inLoop ?_
      repeat' (first | (refine S.op0 rfl (S.stE rfl rfl rfl (by simp only [List.length_set, Array.length_toList]; omega) ?_)) | refine S.nilK ?_ | (refine S.op rfl ?_; first | refine S.addNN (n := 1) rfl rfl (by omega) ?_ | refine S.addNN rfl rfl (by omega) ?_ | refine S.subNN (n := 1) rfl rfl (by omega) (by omega) ?_ | refine S.subNN rfl rfl (by omega) (by omega) ?_ | refine S.ix rfl rfl (by omega) ?_ | refine S.ldE (by decide) rfl (by omega) ?_ | refine R.mv rfl ?_ | refine R.loadR rfl rfl ?_ | refine R.load (by decide) rfl (by first | assumption | exact AHeap.set_same _ _ _) rfl ?_ | refine S.addI rfl rfl (by omega) ?_ | refine S.subI rfl rfl (by omega) ?_ | refine S.addU rfl rfl ?_ | refine S.subU rfl rfl ?_ | refine S.addUc rfl (by decide) ?_ | refine S.subUc rfl (by decide) ?_ | refine R.pickT rfl rfl ?_ | refine R.pickF rfl rfl ?_ | refine R.not rfl ?_ | ((first | refine S.gtr rfl rfl ?_ ?_ | refine S.leq rfl rfl ?_ ?_) <;> intro hlt <;> try (exfalso; omega))) | (refine S.op0 rfl ?_; first | refine S.storeS rfl rfl rfl (by rfl) rfl (by first | decide | exact Nat.le_refl _ | exact Nat.le_of_ble_eq_true rfl) ?_ | refine S.store rfl rfl (by first | assumption | exact AHeap.set_same _ _ _) rfl rfl rfl (by rfl) rfl ?_) | refine S.skip rfl ?_ | refine S.skip0 rfl ?_ | refine S.seq ?_ | refine S.region ?_ | refine S.condT rfl ?_ | refine S.condF rfl ?_ | refine RRun.skip ?_ | refine RRun.block ?_ | refine RRun.inBlock ?_ | refine RRun.exit rfl ?_)
      exact S.keep [0, 1, 10, 11] rfl hk

theorem scanDown_p1 (q cap n a i : Nat) (sp : List AV) (h : AHeap) (hn : n ≤ 1000000) (ha : a < n) (hi : 1 ≤ i) (d : Array SE) (hd : d.size = n) (k : List RT) (Q : AV → AHeap → Prop) : ∀ (j : Nat), j < n →
    RRun Try.prog Try.f115 168 k (Env.get [(0, slAt q 0 n cap), (1, i64 a), (10, i64 i), (11, i64 (scanDown (fun x => !ltE x d[a]!) d i j : Nat))]) (HL h q d.toList sp) Q →
    RRun Try.prog Try.f115 168 (.inLoop r115l1 :: .inBlock 2 :: k) (Env.get [(0, slAt q 0 n cap), (1, i64 a), (10, i64 i), (11, i64 j)]) (HL h q d.toList sp) Q := by
  have stop : ∀ (j : Nat), ¬ i ≤ j → RRun Try.prog Try.f115 168 k (Env.get [(0, slAt q 0 n cap), (1, i64 a), (10, i64 i), (11, i64 (scanDown (fun x => !ltE x d[a]!) d i j : Nat))]) (HL h q d.toList sp) Q →
    RRun Try.prog Try.f115 168 (.inLoop r115l1 :: .inBlock 2 :: k) (Env.get [(0, slAt q 0 n cap), (1, i64 a), (10, i64 i), (11, i64 j)]) (HL h q d.toList sp) Q := by
    intro j hij hk
    rw [scanDown_stop (by omega)] at hk
    refine RRun.inLoop ?_
    repeat' (first | (refine S.op0 rfl (S.stE rfl rfl rfl (by simp only [List.length_set, Array.length_toList]; omega) ?_)) | refine S.nilK ?_ | (refine S.op rfl ?_; first | refine S.addNN (n := 1) rfl rfl (by omega) ?_ | refine S.addNN rfl rfl (by omega) ?_ | refine S.subNN (n := 1) rfl rfl (by omega) (by omega) ?_ | refine S.subNN rfl rfl (by omega) (by omega) ?_ | refine S.ix rfl rfl (by omega) ?_ | refine S.ldE (by decide) rfl (by omega) ?_ | refine R.mv rfl ?_ | refine R.loadR rfl rfl ?_ | refine R.load (by decide) rfl (by first | assumption | exact AHeap.set_same _ _ _) rfl ?_ | refine S.addI rfl rfl (by omega) ?_ | refine S.subI rfl rfl (by omega) ?_ | refine S.addU rfl rfl ?_ | refine S.subU rfl rfl ?_ | refine S.addUc rfl (by decide) ?_ | refine S.subUc rfl (by decide) ?_ | refine R.pickT rfl rfl ?_ | refine R.pickF rfl rfl ?_ | refine R.not rfl ?_ | ((first | refine S.gtr rfl rfl ?_ ?_ | refine S.leq rfl rfl ?_ ?_) <;> intro hlt <;> try (exfalso; omega))) | (refine S.op0 rfl ?_; first | refine S.storeS rfl rfl rfl (by rfl) rfl (by first | decide | exact Nat.le_refl _ | exact Nat.le_of_ble_eq_true rfl) ?_ | refine S.store rfl rfl (by first | assumption | exact AHeap.set_same _ _ _) rfl rfl rfl (by rfl) rfl ?_) | refine S.skip rfl ?_ | refine S.skip0 rfl ?_ | refine S.seq ?_ | refine S.region ?_ | refine S.condT rfl ?_ | refine S.condF rfl ?_ | refine RRun.skip ?_ | refine RRun.block ?_ | refine RRun.inBlock ?_ | refine RRun.exit rfl ?_)
    exact S.keep [0, 1, 10, 11] rfl hk
  intro j
  induction j with
  | zero => intro hj hk; exact stop 0 (by omega) hk
  | succ j ih =>
    intro hj hk
    by_cases hij : i ≤ j + 1
    · cases hl : ltE d[j + 1]! d[a]! with
      | false =>
        rw [scanDown_go hij (by simp [hl])] at hk
        refine RRun.inLoop ?_
        repeat' (first | (refine S.op0 rfl (S.stE rfl rfl rfl (by simp only [List.length_set, Array.length_toList]; omega) ?_)) | refine S.nilK ?_ | (refine S.op rfl ?_; first | refine S.addNN (n := 1) rfl rfl (by omega) ?_ | refine S.addNN rfl rfl (by omega) ?_ | refine S.subNN (n := 1) rfl rfl (by omega) (by omega) ?_ | refine S.subNN rfl rfl (by omega) (by omega) ?_ | refine S.ix rfl rfl (by omega) ?_ | refine S.ldE (by decide) rfl (by omega) ?_ | refine callS rfl rfl (less_is hl _) ?_ | refine R.mv rfl ?_ | refine R.loadR rfl rfl ?_ | refine R.load (by decide) rfl (by first | assumption | exact AHeap.set_same _ _ _) rfl ?_ | refine S.addI rfl rfl (by omega) ?_ | refine S.subI rfl rfl (by omega) ?_ | refine S.addU rfl rfl ?_ | refine S.subU rfl rfl ?_ | refine S.addUc rfl (by decide) ?_ | refine S.subUc rfl (by decide) ?_ | refine R.pickT rfl rfl ?_ | refine R.pickF rfl rfl ?_ | refine R.not rfl ?_ | ((first | refine S.gtr rfl rfl ?_ ?_ | refine S.leq rfl rfl ?_ ?_) <;> intro hlt <;> try (exfalso; omega))) | (refine S.op0 rfl ?_; first | refine S.storeS rfl rfl rfl (by rfl) rfl (by first | decide | exact Nat.le_refl _ | exact Nat.le_of_ble_eq_true rfl) ?_ | refine S.store rfl rfl (by first | assumption | exact AHeap.set_same _ _ _) rfl rfl rfl (by rfl) rfl ?_) | refine S.skip rfl ?_ | refine S.skip0 rfl ?_ | refine S.seq ?_ | refine S.region ?_ | refine S.condT rfl ?_ | refine S.condF rfl ?_ | refine RRun.skip ?_ | refine RRun.block ?_ | refine RRun.inBlock ?_ | refine RRun.exit rfl ?_)
        exact S.keep [0, 1, 10, 11] rfl (ih (by omega) hk)
      | true =>
        rw [scanDown_stop (by simp [hl])] at hk
        refine RRun.inLoop ?_
        repeat' (first | (refine S.op0 rfl (S.stE rfl rfl rfl (by simp only [List.length_set, Array.length_toList]; omega) ?_)) | refine S.nilK ?_ | (refine S.op rfl ?_; first | refine S.addNN (n := 1) rfl rfl (by omega) ?_ | refine S.addNN rfl rfl (by omega) ?_ | refine S.subNN (n := 1) rfl rfl (by omega) (by omega) ?_ | refine S.subNN rfl rfl (by omega) (by omega) ?_ | refine S.ix rfl rfl (by omega) ?_ | refine S.ldE (by decide) rfl (by omega) ?_ | refine callS rfl rfl (less_is hl _) ?_ | refine R.mv rfl ?_ | refine R.loadR rfl rfl ?_ | refine R.load (by decide) rfl (by first | assumption | exact AHeap.set_same _ _ _) rfl ?_ | refine S.addI rfl rfl (by omega) ?_ | refine S.subI rfl rfl (by omega) ?_ | refine S.addU rfl rfl ?_ | refine S.subU rfl rfl ?_ | refine S.addUc rfl (by decide) ?_ | refine S.subUc rfl (by decide) ?_ | refine R.pickT rfl rfl ?_ | refine R.pickF rfl rfl ?_ | refine R.not rfl ?_ | ((first | refine S.gtr rfl rfl ?_ ?_ | refine S.leq rfl rfl ?_ ?_) <;> intro hlt <;> try (exfalso; omega))) | (refine S.op0 rfl ?_; first | refine S.storeS rfl rfl rfl (by rfl) rfl (by first | decide | exact Nat.le_refl _ | exact Nat.le_of_ble_eq_true rfl) ?_ | refine S.store rfl rfl (by first | assumption | exact AHeap.set_same _ _ _) rfl rfl rfl (by rfl) rfl ?_) | refine S.skip rfl ?_ | refine S.skip0 rfl ?_ | refine S.seq ?_ | refine S.region ?_ | refine S.condT rfl ?_ | refine S.condF rfl ?_ | refine RRun.skip ?_ | refine RRun.block ?_ | refine RRun.inBlock ?_ | refine RRun.exit rfl ?_)
        exact S.keep [0, 1, 10, 11] rfl hk
    · exact stop (j + 1) hij hk

theorem scanUp_p2 (q cap n a j : Nat) (sp : List AV) (h : AHeap) (hn : n ≤ 1000000) (ha : a < n) (hj : j < n) (d : Array SE) (hd : d.size = n) (k : List RT) (Q : AV → AHeap → Prop) : ∀ (f i : Nat), j + 1 ≤ i + f → i ≤ n →
    RRun Try.prog Try.f115 168 k (Env.get [(0, slAt q 0 n cap), (1, i64 a), (10, i64 (scanUp (fun x => ltE x d[a]!) d j i : Nat)), (11, i64 j)]) (HL h q d.toList sp) Q →
    RRun Try.prog Try.f115 168 (.inLoop r115l3 :: .inBlock 6 :: k) (Env.get [(0, slAt q 0 n cap), (1, i64 a), (10, i64 i), (11, i64 j)]) (HL h q d.toList sp) Q := by
  intro f
  induction f with
  | zero =>
    intro i hf hin hk
    rw [scanUp_stop (by omega)] at hk
    refine RRun.inLoop ?_
    repeat' (first | (refine S.op0 rfl (S.stE rfl rfl rfl (by simp only [List.length_set, Array.length_toList]; omega) ?_)) | refine S.nilK ?_ | (refine S.op rfl ?_; first | refine S.addNN (n := 1) rfl rfl (by omega) ?_ | refine S.addNN rfl rfl (by omega) ?_ | refine S.subNN (n := 1) rfl rfl (by omega) (by omega) ?_ | refine S.subNN rfl rfl (by omega) (by omega) ?_ | refine S.ix rfl rfl (by omega) ?_ | refine S.ldE (by decide) rfl (by omega) ?_ | refine R.mv rfl ?_ | refine R.loadR rfl rfl ?_ | refine R.load (by decide) rfl (by first | assumption | exact AHeap.set_same _ _ _) rfl ?_ | refine S.addI rfl rfl (by omega) ?_ | refine S.subI rfl rfl (by omega) ?_ | refine S.addU rfl rfl ?_ | refine S.subU rfl rfl ?_ | refine S.addUc rfl (by decide) ?_ | refine S.subUc rfl (by decide) ?_ | refine R.pickT rfl rfl ?_ | refine R.pickF rfl rfl ?_ | refine R.not rfl ?_ | ((first | refine S.gtr rfl rfl ?_ ?_ | refine S.leq rfl rfl ?_ ?_) <;> intro hlt <;> try (exfalso; omega))) | (refine S.op0 rfl ?_; first | refine S.storeS rfl rfl rfl (by rfl) rfl (by first | decide | exact Nat.le_refl _ | exact Nat.le_of_ble_eq_true rfl) ?_ | refine S.store rfl rfl (by first | assumption | exact AHeap.set_same _ _ _) rfl rfl rfl (by rfl) rfl ?_) | refine S.skip rfl ?_ | refine S.skip0 rfl ?_ | refine S.seq ?_ | refine S.region ?_ | refine S.condT rfl ?_ | refine S.condF rfl ?_ | refine RRun.skip ?_ | refine RRun.block ?_ | refine RRun.inBlock ?_ | refine RRun.exit rfl ?_)
    exact S.keep [0, 1, 10, 11] rfl hk
  | succ f ih =>
    intro i hf hin hk
    by_cases hij : i ≤ j
    · cases hl : ltE d[i]! d[a]! with
      | true =>
        rw [scanUp_go hij (by simp [hl])] at hk
        refine RRun.inLoop ?_
        repeat' (first | (refine S.op0 rfl (S.stE rfl rfl rfl (by simp only [List.length_set, Array.length_toList]; omega) ?_)) | refine S.nilK ?_ | (refine S.op rfl ?_; first | refine S.addNN (n := 1) rfl rfl (by omega) ?_ | refine S.addNN rfl rfl (by omega) ?_ | refine S.subNN (n := 1) rfl rfl (by omega) (by omega) ?_ | refine S.subNN rfl rfl (by omega) (by omega) ?_ | refine S.ix rfl rfl (by omega) ?_ | refine S.ldE (by decide) rfl (by omega) ?_ | refine callS rfl rfl (less_is hl _) ?_ | refine R.mv rfl ?_ | refine R.loadR rfl rfl ?_ | refine R.load (by decide) rfl (by first | assumption | exact AHeap.set_same _ _ _) rfl ?_ | refine S.addI rfl rfl (by omega) ?_ | refine S.subI rfl rfl (by omega) ?_ | refine S.addU rfl rfl ?_ | refine S.subU rfl rfl ?_ | refine S.addUc rfl (by decide) ?_ | refine S.subUc rfl (by decide) ?_ | refine R.pickT rfl rfl ?_ | refine R.pickF rfl rfl ?_ | refine R.not rfl ?_ | ((first | refine S.gtr rfl rfl ?_ ?_ | refine S.leq rfl rfl ?_ ?_) <;> intro hlt <;> try (exfalso; omega))) | (refine S.op0 rfl ?_; first | refine S.storeS rfl rfl rfl (by rfl) rfl (by first | decide | exact Nat.le_refl _ | exact Nat.le_of_ble_eq_true rfl) ?_ | refine S.store rfl rfl (by first | assumption | exact AHeap.set_same _ _ _) rfl rfl rfl (by rfl) rfl ?_) | refine S.skip rfl ?_ | refine S.skip0 rfl ?_ | refine S.seq ?_ | refine S.region ?_ | refine S.condT rfl ?_ | refine S.condF rfl ?_ | refine RRun.skip ?_ | refine RRun.block ?_ | refine RRun.inBlock ?_ | refine RRun.exit rfl ?_)
        exact S.keep [0, 1, 10, 11] rfl (ih (i + 1) (by omega) (by omega) hk)
      | false =>
        rw [scanUp_stop (by simp [hl])] at hk
        refine RRun.inLoop ?_
        repeat' (first | (refine S.op0 rfl (S.stE rfl rfl rfl (by simp only [List.length_set, Array.length_toList]; omega) ?_)) | refine S.nilK ?_ | (refine S.op rfl ?_; first | refine S.addNN (n := 1) rfl rfl (by omega) ?_ | refine S.addNN rfl rfl (by omega) ?_ | refine S.subNN (n := 1) rfl rfl (by omega) (by omega) ?_ | refine S.subNN rfl rfl (by omega) (by omega) ?_ | refine S.ix rfl rfl (by omega) ?_ | refine S.ldE (by decide) rfl (by omega) ?_ | refine callS rfl rfl (less_is hl _) ?_ | refine R.mv rfl ?_ | refine R.loadR rfl rfl ?_ | refine R.load (by decide) rfl (by first | assumption | exact AHeap.set_same _ _ _) rfl ?_ | refine S.addI rfl rfl (by omega) ?_ | refine S.subI rfl rfl (by omega) ?_ | refine S.addU rfl rfl ?_ | refine S.subU rfl rfl ?_ | refine S.addUc rfl (by decide) ?_ | refine S.subUc rfl (by decide) ?_ | refine R.pickT rfl rfl ?_ | refine R.pickF rfl rfl ?_ | refine R.not rfl ?_ | ((first | refine S.gtr rfl rfl ?_ ?_ | refine S.leq rfl rfl ?_ ?_) <;> intro hlt <;> try (exfalso; omega))) | (refine S.op0 rfl ?_; first | refine S.storeS rfl rfl rfl (by rfl) rfl (by first | decide | exact Nat.le_refl _ | exact Nat.le_of_ble_eq_true rfl) ?_ | refine S.store rfl rfl (by first | assumption | exact AHeap.set_same _ _ _) rfl rfl rfl (by rfl) rfl ?_) | refine S.skip rfl ?_ | refine S.skip0 rfl ?_ | refine S.seq ?_ | refine S.region ?_ | refine S.condT rfl ?_ | refine S.condF rfl ?_ | refine RRun.skip ?_ | refine RRun.block ?_ | refine RRun.inBlock ?_ | refine RRun.exit rfl ?_)
        exact S.keep [0, 1, 10, 11] rfl hk
    · rw [scanUp_stop (by omega)] at hk
      refine RRun.inLoop ?_
      repeat' (first | (refine S.op0 rfl (S.stE rfl rfl rfl (by simp only [List.length_set, Array.length_toList]; omega) ?_)) | refine S.nilK ?_ | (refine S.op rfl ?_; first | refine S.addNN (n := 1) rfl rfl (by omega) ?_ | refine S.addNN rfl rfl (by omega) ?_ | refine S.subNN (n := 1) rfl rfl (by omega) (by omega) ?_ | refine S.subNN rfl rfl (by omega) (by omega) ?_ | refine S.ix rfl rfl (by omega) ?_ | refine S.ldE (by decide) rfl (by omega) ?_ | refine R.mv rfl ?_ | refine R.loadR rfl rfl ?_ | refine R.load (by decide) rfl (by first | assumption | exact AHeap.set_same _ _ _) rfl ?_ | refine S.addI rfl rfl (by omega) ?_ | refine S.subI rfl rfl (by omega) ?_ | refine S.addU rfl rfl ?_ | refine S.subU rfl rfl ?_ | refine S.addUc rfl (by decide) ?_ | refine S.subUc rfl (by decide) ?_ | refine R.pickT rfl rfl ?_ | refine R.pickF rfl rfl ?_ | refine R.not rfl ?_ | ((first | refine S.gtr rfl rfl ?_ ?_ | refine S.leq rfl rfl ?_ ?_) <;> intro hlt <;> try (exfalso; omega))) | (refine S.op0 rfl ?_; first | refine S.storeS rfl rfl rfl (by rfl) rfl (by first | decide | exact Nat.le_refl _ | exact Nat.le_of_ble_eq_true rfl) ?_ | refine S.store rfl rfl (by first | assumption | exact AHeap.set_same _ _ _) rfl rfl rfl (by rfl) rfl ?_) | refine S.skip rfl ?_ | refine S.skip0 rfl ?_ | refine S.seq ?_ | refine S.region ?_ | refine S.condT rfl ?_ | refine S.condF rfl ?_ | refine RRun.skip ?_ | refine RRun.block ?_ | refine RRun.inBlock ?_ | refine RRun.exit rfl ?_)
      exact S.keep [0, 1, 10, 11] rfl hk

theorem scanDown_p2 (q cap n a i : Nat) (sp : List AV) (h : AHeap) (hn : n ≤ 1000000) (ha : a < n) (hi : 1 ≤ i) (d : Array SE) (hd : d.size = n) (k : List RT) (Q : AV → AHeap → Prop) : ∀ (j : Nat), j < n →
    RRun Try.prog Try.f115 168 k (Env.get [(0, slAt q 0 n cap), (1, i64 a), (10, i64 i), (11, i64 (scanDown (fun x => !ltE x d[a]!) d i j : Nat))]) (HL h q d.toList sp) Q →
    RRun Try.prog Try.f115 168 (.inLoop r115l4 :: .inBlock 8 :: k) (Env.get [(0, slAt q 0 n cap), (1, i64 a), (10, i64 i), (11, i64 j)]) (HL h q d.toList sp) Q := by
  have stop : ∀ (j : Nat), ¬ i ≤ j → RRun Try.prog Try.f115 168 k (Env.get [(0, slAt q 0 n cap), (1, i64 a), (10, i64 i), (11, i64 (scanDown (fun x => !ltE x d[a]!) d i j : Nat))]) (HL h q d.toList sp) Q →
    RRun Try.prog Try.f115 168 (.inLoop r115l4 :: .inBlock 8 :: k) (Env.get [(0, slAt q 0 n cap), (1, i64 a), (10, i64 i), (11, i64 j)]) (HL h q d.toList sp) Q := by
    intro j hij hk
    rw [scanDown_stop (by omega)] at hk
    refine RRun.inLoop ?_
    repeat' (first | (refine S.op0 rfl (S.stE rfl rfl rfl (by simp only [List.length_set, Array.length_toList]; omega) ?_)) | refine S.nilK ?_ | (refine S.op rfl ?_; first | refine S.addNN (n := 1) rfl rfl (by omega) ?_ | refine S.addNN rfl rfl (by omega) ?_ | refine S.subNN (n := 1) rfl rfl (by omega) (by omega) ?_ | refine S.subNN rfl rfl (by omega) (by omega) ?_ | refine S.ix rfl rfl (by omega) ?_ | refine S.ldE (by decide) rfl (by omega) ?_ | refine R.mv rfl ?_ | refine R.loadR rfl rfl ?_ | refine R.load (by decide) rfl (by first | assumption | exact AHeap.set_same _ _ _) rfl ?_ | refine S.addI rfl rfl (by omega) ?_ | refine S.subI rfl rfl (by omega) ?_ | refine S.addU rfl rfl ?_ | refine S.subU rfl rfl ?_ | refine S.addUc rfl (by decide) ?_ | refine S.subUc rfl (by decide) ?_ | refine R.pickT rfl rfl ?_ | refine R.pickF rfl rfl ?_ | refine R.not rfl ?_ | ((first | refine S.gtr rfl rfl ?_ ?_ | refine S.leq rfl rfl ?_ ?_) <;> intro hlt <;> try (exfalso; omega))) | (refine S.op0 rfl ?_; first | refine S.storeS rfl rfl rfl (by rfl) rfl (by first | decide | exact Nat.le_refl _ | exact Nat.le_of_ble_eq_true rfl) ?_ | refine S.store rfl rfl (by first | assumption | exact AHeap.set_same _ _ _) rfl rfl rfl (by rfl) rfl ?_) | refine S.skip rfl ?_ | refine S.skip0 rfl ?_ | refine S.seq ?_ | refine S.region ?_ | refine S.condT rfl ?_ | refine S.condF rfl ?_ | refine RRun.skip ?_ | refine RRun.block ?_ | refine RRun.inBlock ?_ | refine RRun.exit rfl ?_)
    exact S.keep [0, 1, 10, 11] rfl hk
  intro j
  induction j with
  | zero => intro hj hk; exact stop 0 (by omega) hk
  | succ j ih =>
    intro hj hk
    by_cases hij : i ≤ j + 1
    · cases hl : ltE d[j + 1]! d[a]! with
      | false =>
        rw [scanDown_go hij (by simp [hl])] at hk
        refine RRun.inLoop ?_
        repeat' (first | (refine S.op0 rfl (S.stE rfl rfl rfl (by simp only [List.length_set, Array.length_toList]; omega) ?_)) | refine S.nilK ?_ | (refine S.op rfl ?_; first | refine S.addNN (n := 1) rfl rfl (by omega) ?_ | refine S.addNN rfl rfl (by omega) ?_ | refine S.subNN (n := 1) rfl rfl (by omega) (by omega) ?_ | refine S.subNN rfl rfl (by omega) (by omega) ?_ | refine S.ix rfl rfl (by omega) ?_ | refine S.ldE (by decide) rfl (by omega) ?_ | refine callS rfl rfl (less_is hl _) ?_ | refine R.mv rfl ?_ | refine R.loadR rfl rfl ?_ | refine R.load (by decide) rfl (by first | assumption | exact AHeap.set_same _ _ _) rfl ?_ | refine S.addI rfl rfl (by omega) ?_ | refine S.subI rfl rfl (by omega) ?_ | refine S.addU rfl rfl ?_ | refine S.subU rfl rfl ?_ | refine S.addUc rfl (by decide) ?_ | refine S.subUc rfl (by decide) ?_ | refine R.pickT rfl rfl ?_ | refine R.pickF rfl rfl ?_ | refine R.not rfl ?_ | ((first | refine S.gtr rfl rfl ?_ ?_ | refine S.leq rfl rfl ?_ ?_) <;> intro hlt <;> try (exfalso; omega))) | (refine S.op0 rfl ?_; first | refine S.storeS rfl rfl rfl (by rfl) rfl (by first | decide | exact Nat.le_refl _ | exact Nat.le_of_ble_eq_true rfl) ?_ | refine S.store rfl rfl (by first | assumption | exact AHeap.set_same _ _ _) rfl rfl rfl (by rfl) rfl ?_) | refine S.skip rfl ?_ | refine S.skip0 rfl ?_ | refine S.seq ?_ | refine S.region ?_ | refine S.condT rfl ?_ | refine S.condF rfl ?_ | refine RRun.skip ?_ | refine RRun.block ?_ | refine RRun.inBlock ?_ | refine RRun.exit rfl ?_)
        exact S.keep [0, 1, 10, 11] rfl (ih (by omega) hk)
      | true =>
        rw [scanDown_stop (by simp [hl])] at hk
        refine RRun.inLoop ?_
        repeat' (first | (refine S.op0 rfl (S.stE rfl rfl rfl (by simp only [List.length_set, Array.length_toList]; omega) ?_)) | refine S.nilK ?_ | (refine S.op rfl ?_; first | refine S.addNN (n := 1) rfl rfl (by omega) ?_ | refine S.addNN rfl rfl (by omega) ?_ | refine S.subNN (n := 1) rfl rfl (by omega) (by omega) ?_ | refine S.subNN rfl rfl (by omega) (by omega) ?_ | refine S.ix rfl rfl (by omega) ?_ | refine S.ldE (by decide) rfl (by omega) ?_ | refine callS rfl rfl (less_is hl _) ?_ | refine R.mv rfl ?_ | refine R.loadR rfl rfl ?_ | refine R.load (by decide) rfl (by first | assumption | exact AHeap.set_same _ _ _) rfl ?_ | refine S.addI rfl rfl (by omega) ?_ | refine S.subI rfl rfl (by omega) ?_ | refine S.addU rfl rfl ?_ | refine S.subU rfl rfl ?_ | refine S.addUc rfl (by decide) ?_ | refine S.subUc rfl (by decide) ?_ | refine R.pickT rfl rfl ?_ | refine R.pickF rfl rfl ?_ | refine R.not rfl ?_ | ((first | refine S.gtr rfl rfl ?_ ?_ | refine S.leq rfl rfl ?_ ?_) <;> intro hlt <;> try (exfalso; omega))) | (refine S.op0 rfl ?_; first | refine S.storeS rfl rfl rfl (by rfl) rfl (by first | decide | exact Nat.le_refl _ | exact Nat.le_of_ble_eq_true rfl) ?_ | refine S.store rfl rfl (by first | assumption | exact AHeap.set_same _ _ _) rfl rfl rfl (by rfl) rfl ?_) | refine S.skip rfl ?_ | refine S.skip0 rfl ?_ | refine S.seq ?_ | refine S.region ?_ | refine S.condT rfl ?_ | refine S.condF rfl ?_ | refine RRun.skip ?_ | refine RRun.block ?_ | refine RRun.inBlock ?_ | refine RRun.exit rfl ?_)
        exact S.keep [0, 1, 10, 11] rfl hk
    · exact stop (j + 1) hij hk

end Go.Proofs.Ytnmgamcmjjngcaa
