import Derived.Test.YtnmgamcmjjngcaaM1
set_option linter.unusedVariables false
set_option linter.unusedSimpArgs false
namespace Go.Proofs.Ytnmgamcmjjngcaa
open Go.Av
open Go.Sort (swp PermIn SortedIn Below SWO)

theorem S.mulNN {P : Program} {c : Cls} {E : AEnv} {h : AHeap} {K : AV → AHeap → Prop} {x y : Operand} {m n : Nat} (hx : aev E x = some (i64 ((m : Nat) : Int))) (hy : aev E y = some (i64 ((n : Nat) : Int))) (hb : m * n ≤ 9223372036854775807) (hk : K (i64 ((m * n : Nat) : Int)) h) : ROpS P c (.bin .mul x y) E h K :=
  R.bin hx hy (v := .int .i64 ((m * n : Nat) : Int)) (by
    show some (Value.int .i64 (IntKind.i64.wrap ((m : Int) * (n : Int)))) = _
    rw [show ((m : Int) * (n : Int)) = ((m * n : Nat) : Int) by push_cast; rfl, wrap_i64 (by omega) (by omega)]) hk
theorem S.quoNN {P : Program} {c : Cls} {E : AEnv} {h : AHeap} {K : AV → AHeap → Prop} {x y : Operand} {m n : Nat} (hx : aev E x = some (i64 ((m : Nat) : Int))) (hy : aev E y = some (i64 ((n : Nat) : Int))) (h0 : 0 < n) (hb : m ≤ 9223372036854775807) (hk : K (i64 ((m / n : Nat) : Int)) h) : ROpS P c (.bin .quo x y) E h K :=
  R.bin hx hy (v := .int .i64 ((m / n : Nat) : Int)) (by
    show (if ((n : Nat) : Int) = 0 then none else some (Value.int .i64 (IntKind.i64.wrap ((m : Int).tdiv (n : Int))))) = _
    have h1 : ((m : Int).tdiv (n : Int)) = ((m / n : Nat) : Int) := rfl
    have h2 : m / n ≤ m := Nat.div_le_self _ _
    rw [if_neg (by omega), h1]
    generalize m / n = q at h2 ⊢
    rw [wrap_i64 (by omega) (by omega)]) hk


theorem sift_size (hi first : Nat) : ∀ (f root : Nat) (d : Array SE), hi ≤ root + f → (Go.Sort.siftDown ltE hi first root d).size = d.size := by
  intro f
  induction f with
  | zero => intro root d hf; unfold Go.Sort.siftDown; rw [dif_pos (by omega)]
  | succ f ih =>
    intro root d hf
    unfold Go.Sort.siftDown
    split
    · rfl
    · split
      · split
        · rfl
        · split
          · rw [ih _ _ (by omega), swp_size]
          · rfl
      · split
        · rfl
        · rw [ih _ _ (by omega), swp_size]

/-! ### siftDown -/
def r118l0 : RCode :=
  (.block 1
   (.seq (.region [
     ⟨(some 11), none, .act, .mv (.tmp 8)⟩,
     ⟨(some 12), none, .act, .bin .mul (.const (.int .i64 2)) (.tmp 11)⟩,
     ⟨(some 13), none, .act, .bin .add (.tmp 12) (.const (.int .i64 1))⟩,
     ⟨(some 9), none, .act, .mv (.tmp 13)⟩])
   (.seq (.seq (.region [
     ⟨(some 14), none, .act, .mv (.tmp 9)⟩,
     ⟨(some 15), none, .act, .mv (.tmp 2)⟩,
     ⟨(some 16), none, .act, .bin .geq (.tmp 14) (.tmp 15)⟩])
   (.cond (.tmp 16)
    (.exit 0)
    .skip))
   (.seq (.seq (.region [
     ⟨(some 17), none, .pure, .mv (.tmp 9)⟩,
     ⟨(some 18), none, .pure, .bin .add (.tmp 17) (.const (.int .i64 1))⟩,
     ⟨(some 19), none, .pure, .mv (.tmp 2)⟩,
     ⟨(some 20), none, .pure, .bin .lss (.tmp 18) (.tmp 19)⟩,
     ⟨(some 21), none, .pure, .mv (.tmp 20)⟩,
     ⟨(some 22), (some (21, true)), .pure, .mv (.tmp 0)⟩,
     ⟨(some 23), (some (21, true)), .pure, .mv (.tmp 3)⟩,
     ⟨(some 24), (some (21, true)), .pure, .mv (.tmp 9)⟩,
     ⟨(some 25), (some (21, true)), .pure, .bin .add (.tmp 23) (.tmp 24)⟩,
     ⟨(some 26), (some (21, true)), .pure, .indexAddr 1 (.tmp 22) (.tmp 25)⟩,
     ⟨(some 27), (some (21, true)), .read, .load false 1 (.tmp 26)⟩,
     ⟨(some 28), (some (21, true)), .pure, .mv (.tmp 0)⟩,
     ⟨(some 29), (some (21, true)), .pure, .mv (.tmp 3)⟩,
     ⟨(some 30), (some (21, true)), .pure, .mv (.tmp 9)⟩,
     ⟨(some 31), (some (21, true)), .pure, .bin .add (.tmp 29) (.tmp 30)⟩,
     ⟨(some 32), (some (21, true)), .pure, .bin .add (.tmp 31) (.const (.int .i64 1))⟩,
     ⟨(some 33), (some (21, true)), .pure, .indexAddr 1 (.tmp 28) (.tmp 32)⟩,
     ⟨(some 34), (some (21, true)), .read, .load false 1 (.tmp 33)⟩,
     ⟨(some 35), (some (21, true)), .act, .call 113 [(.tmp 27), (.tmp 34)]⟩,
     ⟨(some 36), none, .pure, .pick (.tmp 21) (.tmp 35) (.const (.bool false))⟩])
   (.cond (.tmp 36)
    (.region [
      ⟨(some 37), none, .act, .mv (.tmp 9)⟩,
      ⟨(some 38), none, .act, .bin .add (.tmp 37) (.const (.int .i64 1))⟩,
      ⟨(some 9), none, .act, .mv (.tmp 38)⟩])
    .skip))
   (.seq (.seq (.region [
     ⟨(some 39), none, .pure, .mv (.tmp 0)⟩,
     ⟨(some 40), none, .pure, .mv (.tmp 3)⟩,
     ⟨(some 41), none, .pure, .mv (.tmp 8)⟩,
     ⟨(some 42), none, .pure, .bin .add (.tmp 40) (.tmp 41)⟩,
     ⟨(some 43), none, .pure, .indexAddr 1 (.tmp 39) (.tmp 42)⟩,
     ⟨(some 44), none, .read, .load false 1 (.tmp 43)⟩,
     ⟨(some 45), none, .pure, .mv (.tmp 0)⟩,
     ⟨(some 46), none, .pure, .mv (.tmp 3)⟩,
     ⟨(some 47), none, .pure, .mv (.tmp 9)⟩,
     ⟨(some 48), none, .pure, .bin .add (.tmp 46) (.tmp 47)⟩,
     ⟨(some 49), none, .pure, .indexAddr 1 (.tmp 45) (.tmp 48)⟩,
     ⟨(some 50), none, .read, .load false 1 (.tmp 49)⟩,
     ⟨(some 51), none, .act, .call 113 [(.tmp 44), (.tmp 50)]⟩,
     ⟨(some 52), none, .pure, .un .not (.tmp 51)⟩])
   (.cond (.tmp 52)
    .ret
    .skip))
   (.seq (.region [
     ⟨(some 53), none, .pure, .mv (.tmp 0)⟩,
     ⟨(some 54), none, .pure, .mv (.tmp 3)⟩,
     ⟨(some 55), none, .pure, .mv (.tmp 8)⟩,
     ⟨(some 56), none, .pure, .bin .add (.tmp 54) (.tmp 55)⟩,
     ⟨(some 57), none, .pure, .mv (.tmp 0)⟩,
     ⟨(some 58), none, .pure, .mv (.tmp 3)⟩,
     ⟨(some 59), none, .pure, .mv (.tmp 9)⟩,
     ⟨(some 60), none, .pure, .bin .add (.tmp 58) (.tmp 59)⟩,
     ⟨(some 61), none, .pure, .mv (.tmp 0)⟩,
     ⟨(some 62), none, .pure, .mv (.tmp 3)⟩,
     ⟨(some 63), none, .pure, .mv (.tmp 9)⟩,
     ⟨(some 64), none, .pure, .bin .add (.tmp 62) (.tmp 63)⟩,
     ⟨(some 65), none, .pure, .indexAddr 1 (.tmp 61) (.tmp 64)⟩,
     ⟨(some 66), none, .read, .load false 1 (.tmp 65)⟩,
     ⟨(some 67), none, .pure, .mv (.tmp 0)⟩,
     ⟨(some 68), none, .pure, .mv (.tmp 3)⟩,
     ⟨(some 69), none, .pure, .mv (.tmp 8)⟩,
     ⟨(some 70), none, .pure, .bin .add (.tmp 68) (.tmp 69)⟩,
     ⟨(some 71), none, .pure, .indexAddr 1 (.tmp 67) (.tmp 70)⟩,
     ⟨(some 72), none, .read, .load false 1 (.tmp 71)⟩,
     ⟨(some 73), none, .pure, .indexAddr 1 (.tmp 53) (.tmp 56)⟩,
     ⟨none, none, .act, .store 1 (.tmp 73) (.tmp 66)⟩,
     ⟨(some 74), none, .pure, .indexAddr 1 (.tmp 57) (.tmp 60)⟩,
     ⟨none, none, .act, .store 1 (.tmp 74) (.tmp 72)⟩])
   (.region [
     ⟨(some 75), none, .act, .mv (.tmp 9)⟩,
     ⟨(some 8), none, .act, .mv (.tmp 75)⟩])))))))
/-- slices.siftDownOrdered[uint64] -/
def r118 : RCode :=
  (.seq (.region [
    ⟨(some 10), none, .act, .mv (.tmp 1)⟩,
    ⟨(some 8), none, .act, .mv (.tmp 10)⟩])
  (.block 0
   (.loop r118l0)))
theorem res118 : ∃ c, Try.f118.body = some c ∧ resCode Try.prog 76 c = some r118 := ⟨_, rfl, by kernel_rfl⟩
theorem rr118 : resRes Try.prog Try.f118.results.toList = some [] := by kernel_rfl

theorem sift_tt (b cap n hi first root : Nat) (sp : List AV) (h : AHeap) (hn : n ≤ 1000000) (hfi : first + hi ≤ n) (hr : root ≤ n) (d : Array SE) (hd : d.size = n) (Q : AV → AHeap → Prop) (hge : ¬ 2 * root + 1 ≥ hi) (h2 : 2 * root + 1 + 1 < hi) (h3 : ltE d[first + (2 * root + 1)]! d[first + (2 * root + 1) + 1]! = true) (h4 : ltE d[first + root]! d[first + (2 * root + 1 + 1)]! = true) (hk : RRun Try.prog Try.f118 76 [.inLoop r118l0, .inBlock 0] (Env.get [(0, slAt b 0 n cap), (2, i64 hi), (3, i64 first), (8, i64 (2 * root + 1 + 1 : Nat))]) (HL h b (swp d (first + root) (first + (2 * root + 1 + 1))).toList sp) Q) : 
    RRun Try.prog Try.f118 76 [.inLoop r118l0, .inBlock 0] (Env.get [(0, slAt b 0 n cap), (2, i64 hi), (3, i64 first), (8, i64 root)]) (HL h b d.toList sp) Q := by
  refine RRun.inLoop ?_
  repeat' (first | (refine S.op0 rfl (S.stE rfl rfl rfl (by simp only [List.length_set, Array.length_toList]; omega) ?_)) | refine S.nilK ?_ | (refine S.op rfl ?_; first | refine S.addNN (n := 1) rfl rfl (by omega) ?_ | refine S.addNN rfl rfl (by omega) ?_ | refine S.subNN (n := 1) rfl rfl (by omega) (by omega) ?_ | refine S.subNN rfl rfl (by omega) (by omega) ?_ | refine S.mulNN (m := 2) rfl rfl (by omega) ?_ | refine S.ix rfl rfl (by omega) ?_ | refine S.ldE (by decide) rfl (by omega) ?_ | refine callS rfl rfl (less_is h3 _) ?_ | refine callS rfl rfl (less_is h4 _) ?_ | refine R.mv rfl ?_ | refine R.loadR rfl rfl ?_ | refine R.load (by decide) rfl (by first | assumption | exact AHeap.set_same _ _ _) rfl ?_ | refine S.addI rfl rfl (by omega) ?_ | refine S.addU rfl rfl ?_ | refine S.addUc rfl (by decide) ?_ | refine S.arith rfl rfl rfl ?_ | refine R.pickT rfl rfl ?_ | refine R.pickF rfl rfl ?_ | refine R.not rfl ?_ | ((first | refine S.lss rfl rfl ?_ ?_ | refine S.geq rfl rfl ?_ ?_) <;> intro hlt <;> try (exfalso; omega))) | (refine S.op0 rfl ?_; first | refine S.storeS rfl rfl rfl (by rfl) rfl (by first | decide | exact Nat.le_refl _ | exact Nat.le_of_ble_eq_true rfl) ?_ | refine S.store rfl rfl (by first | assumption | exact AHeap.set_same _ _ _) rfl rfl rfl (by rfl) rfl ?_) | refine S.skip rfl ?_ | refine S.skip0 rfl ?_ | refine S.seq ?_ | refine S.region ?_ | refine S.condT rfl ?_ | refine S.condF rfl ?_ | refine RRun.skip ?_ | refine RRun.block ?_ | refine RRun.inBlock ?_ | refine RRun.exit rfl ?_)
  rw [swp_list]
  exact S.keep [0, 2, 3, 8] rfl hk

theorem sift_ft (b cap n hi first root : Nat) (sp : List AV) (h : AHeap) (hn : n ≤ 1000000) (hfi : first + hi ≤ n) (hr : root ≤ n) (d : Array SE) (hd : d.size = n) (Q : AV → AHeap → Prop) (hge : ¬ 2 * root + 1 ≥ hi) (h2 : 2 * root + 1 + 1 < hi) (h3 : ltE d[first + (2 * root + 1)]! d[first + (2 * root + 1) + 1]! = false) (h4 : ltE d[first + root]! d[first + (2 * root + 1)]! = true) (hk : RRun Try.prog Try.f118 76 [.inLoop r118l0, .inBlock 0] (Env.get [(0, slAt b 0 n cap), (2, i64 hi), (3, i64 first), (8, i64 (2 * root + 1 : Nat))]) (HL h b (swp d (first + root) (first + (2 * root + 1))).toList sp) Q) : 
    RRun Try.prog Try.f118 76 [.inLoop r118l0, .inBlock 0] (Env.get [(0, slAt b 0 n cap), (2, i64 hi), (3, i64 first), (8, i64 root)]) (HL h b d.toList sp) Q := by
  refine RRun.inLoop ?_
  repeat' (first | (refine S.op0 rfl (S.stE rfl rfl rfl (by simp only [List.length_set, Array.length_toList]; omega) ?_)) | refine S.nilK ?_ | (refine S.op rfl ?_; first | refine S.addNN (n := 1) rfl rfl (by omega) ?_ | refine S.addNN rfl rfl (by omega) ?_ | refine S.subNN (n := 1) rfl rfl (by omega) (by omega) ?_ | refine S.subNN rfl rfl (by omega) (by omega) ?_ | refine S.mulNN (m := 2) rfl rfl (by omega) ?_ | refine S.ix rfl rfl (by omega) ?_ | refine S.ldE (by decide) rfl (by omega) ?_ | refine callS rfl rfl (less_is h3 _) ?_ | refine callS rfl rfl (less_is h4 _) ?_ | refine R.mv rfl ?_ | refine R.loadR rfl rfl ?_ | refine R.load (by decide) rfl (by first | assumption | exact AHeap.set_same _ _ _) rfl ?_ | refine S.addI rfl rfl (by omega) ?_ | refine S.addU rfl rfl ?_ | refine S.addUc rfl (by decide) ?_ | refine S.arith rfl rfl rfl ?_ | refine R.pickT rfl rfl ?_ | refine R.pickF rfl rfl ?_ | refine R.not rfl ?_ | ((first | refine S.lss rfl rfl ?_ ?_ | refine S.geq rfl rfl ?_ ?_) <;> intro hlt <;> try (exfalso; omega))) | (refine S.op0 rfl ?_; first | refine S.storeS rfl rfl rfl (by rfl) rfl (by first | decide | exact Nat.le_refl _ | exact Nat.le_of_ble_eq_true rfl) ?_ | refine S.store rfl rfl (by first | assumption | exact AHeap.set_same _ _ _) rfl rfl rfl (by rfl) rfl ?_) | refine S.skip rfl ?_ | refine S.skip0 rfl ?_ | refine S.seq ?_ | refine S.region ?_ | refine S.condT rfl ?_ | refine S.condF rfl ?_ | refine RRun.skip ?_ | refine RRun.block ?_ | refine RRun.inBlock ?_ | refine RRun.exit rfl ?_)
  rw [swp_list]
  exact S.keep [0, 2, 3, 8] rfl hk

theorem sift_gt (b cap n hi first root : Nat) (sp : List AV) (h : AHeap) (hn : n ≤ 1000000) (hfi : first + hi ≤ n) (hr : root ≤ n) (d : Array SE) (hd : d.size = n) (Q : AV → AHeap → Prop) (hge : ¬ 2 * root + 1 ≥ hi) (h2 : ¬ 2 * root + 1 + 1 < hi) (h4 : ltE d[first + root]! d[first + (2 * root + 1)]! = true) (hk : RRun Try.prog Try.f118 76 [.inLoop r118l0, .inBlock 0] (Env.get [(0, slAt b 0 n cap), (2, i64 hi), (3, i64 first), (8, i64 (2 * root + 1 : Nat))]) (HL h b (swp d (first + root) (first + (2 * root + 1))).toList sp) Q) : 
    RRun Try.prog Try.f118 76 [.inLoop r118l0, .inBlock 0] (Env.get [(0, slAt b 0 n cap), (2, i64 hi), (3, i64 first), (8, i64 root)]) (HL h b d.toList sp) Q := by
  refine RRun.inLoop ?_
  repeat' (first | (refine S.op0 rfl (S.stE rfl rfl rfl (by simp only [List.length_set, Array.length_toList]; omega) ?_)) | refine S.nilK ?_ | (refine S.op rfl ?_; first | refine S.addNN (n := 1) rfl rfl (by omega) ?_ | refine S.addNN rfl rfl (by omega) ?_ | refine S.subNN (n := 1) rfl rfl (by omega) (by omega) ?_ | refine S.subNN rfl rfl (by omega) (by omega) ?_ | refine S.mulNN (m := 2) rfl rfl (by omega) ?_ | refine S.ix rfl rfl (by omega) ?_ | refine S.ldE (by decide) rfl (by omega) ?_ | refine callS rfl rfl (less_is h4 _) ?_ | refine R.mv rfl ?_ | refine R.loadR rfl rfl ?_ | refine R.load (by decide) rfl (by first | assumption | exact AHeap.set_same _ _ _) rfl ?_ | refine S.addI rfl rfl (by omega) ?_ | refine S.addU rfl rfl ?_ | refine S.addUc rfl (by decide) ?_ | refine S.arith rfl rfl rfl ?_ | refine R.pickT rfl rfl ?_ | refine R.pickF rfl rfl ?_ | refine R.not rfl ?_ | ((first | refine S.lss rfl rfl ?_ ?_ | refine S.geq rfl rfl ?_ ?_) <;> intro hlt <;> try (exfalso; omega))) | (refine S.op0 rfl ?_; first | refine S.storeS rfl rfl rfl (by rfl) rfl (by first | decide | exact Nat.le_refl _ | exact Nat.le_of_ble_eq_true rfl) ?_ | refine S.store rfl rfl (by first | assumption | exact AHeap.set_same _ _ _) rfl rfl rfl (by rfl) rfl ?_) | refine S.skip rfl ?_ | refine S.skip0 rfl ?_ | refine S.seq ?_ | refine S.region ?_ | refine S.condT rfl ?_ | refine S.condF rfl ?_ | refine RRun.skip ?_ | refine RRun.block ?_ | refine RRun.inBlock ?_ | refine RRun.exit rfl ?_)
  rw [swp_list]
  exact S.keep [0, 2, 3, 8] rfl hk

theorem sift_tf (b cap n hi first root : Nat) (sp : List AV) (h : AHeap) (hn : n ≤ 1000000) (hfi : first + hi ≤ n) (hr : root ≤ n) (d : Array SE) (hd : d.size = n) (Q : AV → AHeap → Prop) (hge : ¬ 2 * root + 1 ≥ hi) (h2 : 2 * root + 1 + 1 < hi) (h3 : ltE d[first + (2 * root + 1)]! d[first + (2 * root + 1) + 1]! = true) (h4 : ltE d[first + root]! d[first + (2 * root + 1 + 1)]! = false) (hk : ∀ x, Q x (HL h b d.toList sp)) : 
    RRun Try.prog Try.f118 76 [.inLoop r118l0, .inBlock 0] (Env.get [(0, slAt b 0 n cap), (2, i64 hi), (3, i64 first), (8, i64 root)]) (HL h b d.toList sp) Q := by
  refine RRun.inLoop ?_
  repeat' (first | (refine S.op0 rfl (S.stE rfl rfl rfl (by simp only [List.length_set, Array.length_toList]; omega) ?_)) | refine S.nilK ?_ | (refine S.op rfl ?_; first | refine S.addNN (n := 1) rfl rfl (by omega) ?_ | refine S.addNN rfl rfl (by omega) ?_ | refine S.subNN (n := 1) rfl rfl (by omega) (by omega) ?_ | refine S.subNN rfl rfl (by omega) (by omega) ?_ | refine S.mulNN (m := 2) rfl rfl (by omega) ?_ | refine S.ix rfl rfl (by omega) ?_ | refine S.ldE (by decide) rfl (by omega) ?_ | refine callS rfl rfl (less_is h3 _) ?_ | refine callS rfl rfl (less_is h4 _) ?_ | refine R.mv rfl ?_ | refine R.loadR rfl rfl ?_ | refine R.load (by decide) rfl (by first | assumption | exact AHeap.set_same _ _ _) rfl ?_ | refine S.addI rfl rfl (by omega) ?_ | refine S.addU rfl rfl ?_ | refine S.addUc rfl (by decide) ?_ | refine S.arith rfl rfl rfl ?_ | refine R.pickT rfl rfl ?_ | refine R.pickF rfl rfl ?_ | refine R.not rfl ?_ | ((first | refine S.lss rfl rfl ?_ ?_ | refine S.geq rfl rfl ?_ ?_) <;> intro hlt <;> try (exfalso; omega))) | (refine S.op0 rfl ?_; first | refine S.storeS rfl rfl rfl (by rfl) rfl (by first | decide | exact Nat.le_refl _ | exact Nat.le_of_ble_eq_true rfl) ?_ | refine S.store rfl rfl (by first | assumption | exact AHeap.set_same _ _ _) rfl rfl rfl (by rfl) rfl ?_) | refine S.skip rfl ?_ | refine S.skip0 rfl ?_ | refine S.seq ?_ | refine S.region ?_ | refine S.condT rfl ?_ | refine S.condF rfl ?_ | refine RRun.skip ?_ | refine RRun.block ?_ | refine RRun.inBlock ?_ | refine RRun.exit rfl ?_)
  apply S.ret rr118
  case hx => repeat (first | exact ResAt.nil | apply ResAt.tmp rfl | apply ResAt.cellA rfl (by first | assumption | exact AHeap.set_same _ _ _) (by rfl) | apply ResAt.cell1 rfl (by first | assumption | exact AHeap.set_same _ _ _) (by rfl))
  exact hk _

theorem sift_ff (b cap n hi first root : Nat) (sp : List AV) (h : AHeap) (hn : n ≤ 1000000) (hfi : first + hi ≤ n) (hr : root ≤ n) (d : Array SE) (hd : d.size = n) (Q : AV → AHeap → Prop) (hge : ¬ 2 * root + 1 ≥ hi) (h2 : 2 * root + 1 + 1 < hi) (h3 : ltE d[first + (2 * root + 1)]! d[first + (2 * root + 1) + 1]! = false) (h4 : ltE d[first + root]! d[first + (2 * root + 1)]! = false) (hk : ∀ x, Q x (HL h b d.toList sp)) : 
    RRun Try.prog Try.f118 76 [.inLoop r118l0, .inBlock 0] (Env.get [(0, slAt b 0 n cap), (2, i64 hi), (3, i64 first), (8, i64 root)]) (HL h b d.toList sp) Q := by
  refine RRun.inLoop ?_
  repeat' (first | (refine S.op0 rfl (S.stE rfl rfl rfl (by simp only [List.length_set, Array.length_toList]; omega) ?_)) | refine S.nilK ?_ | (refine S.op rfl ?_; first | refine S.addNN (n := 1) rfl rfl (by omega) ?_ | refine S.addNN rfl rfl (by omega) ?_ | refine S.subNN (n := 1) rfl rfl (by omega) (by omega) ?_ | refine S.subNN rfl rfl (by omega) (by omega) ?_ | refine S.mulNN (m := 2) rfl rfl (by omega) ?_ | refine S.ix rfl rfl (by omega) ?_ | refine S.ldE (by decide) rfl (by omega) ?_ | refine callS rfl rfl (less_is h3 _) ?_ | refine callS rfl rfl (less_is h4 _) ?_ | refine R.mv rfl ?_ | refine R.loadR rfl rfl ?_ | refine R.load (by decide) rfl (by first | assumption | exact AHeap.set_same _ _ _) rfl ?_ | refine S.addI rfl rfl (by omega) ?_ | refine S.addU rfl rfl ?_ | refine S.addUc rfl (by decide) ?_ | refine S.arith rfl rfl rfl ?_ | refine R.pickT rfl rfl ?_ | refine R.pickF rfl rfl ?_ | refine R.not rfl ?_ | ((first | refine S.lss rfl rfl ?_ ?_ | refine S.geq rfl rfl ?_ ?_) <;> intro hlt <;> try (exfalso; omega))) | (refine S.op0 rfl ?_; first | refine S.storeS rfl rfl rfl (by rfl) rfl (by first | decide | exact Nat.le_refl _ | exact Nat.le_of_ble_eq_true rfl) ?_ | refine S.store rfl rfl (by first | assumption | exact AHeap.set_same _ _ _) rfl rfl rfl (by rfl) rfl ?_) | refine S.skip rfl ?_ | refine S.skip0 rfl ?_ | refine S.seq ?_ | refine S.region ?_ | refine S.condT rfl ?_ | refine S.condF rfl ?_ | refine RRun.skip ?_ | refine RRun.block ?_ | refine RRun.inBlock ?_ | refine RRun.exit rfl ?_)
  apply S.ret rr118
  case hx => repeat (first | exact ResAt.nil | apply ResAt.tmp rfl | apply ResAt.cellA rfl (by first | assumption | exact AHeap.set_same _ _ _) (by rfl) | apply ResAt.cell1 rfl (by first | assumption | exact AHeap.set_same _ _ _) (by rfl))
  exact hk _

theorem sift_gf (b cap n hi first root : Nat) (sp : List AV) (h : AHeap) (hn : n ≤ 1000000) (hfi : first + hi ≤ n) (hr : root ≤ n) (d : Array SE) (hd : d.size = n) (Q : AV → AHeap → Prop) (hge : ¬ 2 * root + 1 ≥ hi) (h2 : ¬ 2 * root + 1 + 1 < hi) (h4 : ltE d[first + root]! d[first + (2 * root + 1)]! = false) (hk : ∀ x, Q x (HL h b d.toList sp)) : 
    RRun Try.prog Try.f118 76 [.inLoop r118l0, .inBlock 0] (Env.get [(0, slAt b 0 n cap), (2, i64 hi), (3, i64 first), (8, i64 root)]) (HL h b d.toList sp) Q := by
  refine RRun.inLoop ?_
  repeat' (first | (refine S.op0 rfl (S.stE rfl rfl rfl (by simp only [List.length_set, Array.length_toList]; omega) ?_)) | refine S.nilK ?_ | (refine S.op rfl ?_; first | refine S.addNN (n := 1) rfl rfl (by omega) ?_ | refine S.addNN rfl rfl (by omega) ?_ | refine S.subNN (n := 1) rfl rfl (by omega) (by omega) ?_ | refine S.subNN rfl rfl (by omega) (by omega) ?_ | refine S.mulNN (m := 2) rfl rfl (by omega) ?_ | refine S.ix rfl rfl (by omega) ?_ | refine S.ldE (by decide) rfl (by omega) ?_ | refine callS rfl rfl (less_is h4 _) ?_ | refine R.mv rfl ?_ | refine R.loadR rfl rfl ?_ | refine R.load (by decide) rfl (by first | assumption | exact AHeap.set_same _ _ _) rfl ?_ | refine S.addI rfl rfl (by omega) ?_ | refine S.addU rfl rfl ?_ | refine S.addUc rfl (by decide) ?_ | refine S.arith rfl rfl rfl ?_ | refine R.pickT rfl rfl ?_ | refine R.pickF rfl rfl ?_ | refine R.not rfl ?_ | ((first | refine S.lss rfl rfl ?_ ?_ | refine S.geq rfl rfl ?_ ?_) <;> intro hlt <;> try (exfalso; omega))) | (refine S.op0 rfl ?_; first | refine S.storeS rfl rfl rfl (by rfl) rfl (by first | decide | exact Nat.le_refl _ | exact Nat.le_of_ble_eq_true rfl) ?_ | refine S.store rfl rfl (by first | assumption | exact AHeap.set_same _ _ _) rfl rfl rfl (by rfl) rfl ?_) | refine S.skip rfl ?_ | refine S.skip0 rfl ?_ | refine S.seq ?_ | refine S.region ?_ | refine S.condT rfl ?_ | refine S.condF rfl ?_ | refine RRun.skip ?_ | refine RRun.block ?_ | refine RRun.inBlock ?_ | refine RRun.exit rfl ?_)
  apply S.ret rr118
  case hx => repeat (first | exact ResAt.nil | apply ResAt.tmp rfl | apply ResAt.cellA rfl (by first | assumption | exact AHeap.set_same _ _ _) (by rfl) | apply ResAt.cell1 rfl (by first | assumption | exact AHeap.set_same _ _ _) (by rfl))
  exact hk _

theorem sift_loop (b cap n hi first : Nat) (sp : List AV) (h : AHeap) (hn : n ≤ 1000000) (hfi : first + hi ≤ n) : ∀ (f root : Nat) (d : Array SE), d.size = n → hi ≤ root + f → root ≤ n →
    RRun Try.prog Try.f118 76 [.inLoop r118l0, .inBlock 0] (Env.get [(0, slAt b 0 n cap), (2, i64 hi), (3, i64 first), (8, i64 root)]) (HL h b d.toList sp) (fun _ h' => h' = HL h b (Go.Sort.siftDown ltE hi first root d).toList sp) := by
  have stop : ∀ (root : Nat) (d : Array SE), root ≤ n → 2 * root + 1 ≥ hi →
    RRun Try.prog Try.f118 76 [.inLoop r118l0, .inBlock 0] (Env.get [(0, slAt b 0 n cap), (2, i64 hi), (3, i64 first), (8, i64 root)]) (HL h b d.toList sp) (fun _ h' => h' = HL h b (Go.Sort.siftDown ltE hi first root d).toList sp) := by
    intro root d hr hge
    have e : Go.Sort.siftDown ltE hi first root d = d := by unfold Go.Sort.siftDown; rw [dif_pos hge]
    refine RRun.inLoop ?_
    repeat' (first | (refine S.op0 rfl (S.stE rfl rfl rfl (by simp only [List.length_set, Array.length_toList]; omega) ?_)) | refine S.nilK ?_ | (refine S.op rfl ?_; first | refine S.addNN (n := 1) rfl rfl (by omega) ?_ | refine S.addNN rfl rfl (by omega) ?_ | refine S.subNN (n := 1) rfl rfl (by omega) (by omega) ?_ | refine S.subNN rfl rfl (by omega) (by omega) ?_ | refine S.mulNN (m := 2) rfl rfl (by omega) ?_ | refine S.ix rfl rfl (by omega) ?_ | refine S.ldE (by decide) rfl (by omega) ?_ | refine R.mv rfl ?_ | refine R.loadR rfl rfl ?_ | refine R.load (by decide) rfl (by first | assumption | exact AHeap.set_same _ _ _) rfl ?_ | refine S.addI rfl rfl (by omega) ?_ | refine S.addU rfl rfl ?_ | refine S.addUc rfl (by decide) ?_ | refine S.arith rfl rfl rfl ?_ | refine R.pickT rfl rfl ?_ | refine R.pickF rfl rfl ?_ | refine R.not rfl ?_ | ((first | refine S.lss rfl rfl ?_ ?_ | refine S.geq rfl rfl ?_ ?_) <;> intro hlt <;> try (exfalso; omega))) | (refine S.op0 rfl ?_; first | refine S.storeS rfl rfl rfl (by rfl) rfl (by first | decide | exact Nat.le_refl _ | exact Nat.le_of_ble_eq_true rfl) ?_ | refine S.store rfl rfl (by first | assumption | exact AHeap.set_same _ _ _) rfl rfl rfl (by rfl) rfl ?_) | refine S.skip rfl ?_ | refine S.skip0 rfl ?_ | refine S.seq ?_ | refine S.region ?_ | refine S.condT rfl ?_ | refine S.condF rfl ?_ | refine RRun.skip ?_ | refine RRun.block ?_ | refine RRun.inBlock ?_ | refine RRun.exit rfl ?_)
    apply S.done rr118
    case hx => repeat (first | exact ResAt.nil | apply ResAt.tmp rfl | apply ResAt.cellA rfl (by first | assumption | exact AHeap.set_same _ _ _) (by rfl) | apply ResAt.cell1 rfl (by first | assumption | exact AHeap.set_same _ _ _) (by rfl))
    rw [e]
  intro f
  induction f with
  | zero => intro root d hd hf hr; exact stop root d hr (by omega)
  | succ f ih =>
    intro root d hd hf hr
    by_cases hge : 2 * root + 1 ≥ hi
    · exact stop root d hr hge
    · by_cases h2 : 2 * root + 1 + 1 < hi
      · cases h3 : ltE d[first + (2 * root + 1)]! d[first + (2 * root + 1) + 1]! with
        | true =>
          cases h4 : ltE d[first + root]! d[first + (2 * root + 1 + 1)]! with
          | false =>
            have e : Go.Sort.siftDown ltE hi first root d = d := by unfold Go.Sort.siftDown; rw [dif_neg hge]; simp [h2, h3, h4]
            rw [e]
            exact sift_tf b cap n hi first root sp h hn hfi hr d hd _ hge h2 h3 h4 (fun _ => rfl)
          | true =>
            have e : Go.Sort.siftDown ltE hi first root d = Go.Sort.siftDown ltE hi first (2 * root + 1 + 1) (swp d (first + root) (first + (2 * root + 1 + 1))) := by
              conv => lhs; unfold Go.Sort.siftDown
              rw [dif_neg hge]; simp [h2, h3, h4]
            rw [e]
            exact sift_tt b cap n hi first root sp h hn hfi hr d hd _ hge h2 h3 h4 (ih (2 * root + 1 + 1) _ (by rw [swp_size]; exact hd) (by omega) (by omega))
        | false =>
          cases h4 : ltE d[first + root]! d[first + (2 * root + 1)]! with
          | false =>
            have e : Go.Sort.siftDown ltE hi first root d = d := by unfold Go.Sort.siftDown; rw [dif_neg hge]; simp [h3, h4]
            rw [e]
            exact sift_ff b cap n hi first root sp h hn hfi hr d hd _ hge h2 h3 h4 (fun _ => rfl)
          | true =>
            have e : Go.Sort.siftDown ltE hi first root d = Go.Sort.siftDown ltE hi first (2 * root + 1) (swp d (first + root) (first + (2 * root + 1))) := by
              conv => lhs; unfold Go.Sort.siftDown
              rw [dif_neg hge]; simp [h3, h4]
            rw [e]
            exact sift_ft b cap n hi first root sp h hn hfi hr d hd _ hge h2 h3 h4 (ih (2 * root + 1) _ (by rw [swp_size]; exact hd) (by omega) (by omega))
      · cases h4 : ltE d[first + root]! d[first + (2 * root + 1)]! with
        | false =>
          have e : Go.Sort.siftDown ltE hi first root d = d := by unfold Go.Sort.siftDown; rw [dif_neg hge]; simp [h2, h4]
          rw [e]
          exact sift_gf b cap n hi first root sp h hn hfi hr d hd _ hge h2 h4 (fun _ => rfl)
        | true =>
          have e : Go.Sort.siftDown ltE hi first root d = Go.Sort.siftDown ltE hi first (2 * root + 1) (swp d (first + root) (first + (2 * root + 1))) := by
            conv => lhs; unfold Go.Sort.siftDown
            rw [dif_neg hge]; simp [h2, h4]
          rw [e]
          exact sift_gt b cap n hi first root sp h hn hfi hr d hd _ hge h2 h4 (ih (2 * root + 1) _ (by rw [swp_size]; exact hd) (by omega) (by omega))

theorem siftDown_spec (b cap n root hi first : Nat) (sp : List AV) (h : AHeap) (hn : n ≤ 1000000) (hfi : first + hi ≤ n) (hr : root ≤ n) (d : Array SE) (hd : d.size = n) :
    ACalls Try.prog 118 [slAt b 0 n cap, i64 root, i64 hi, i64 first] (HL h b d.toList sp) (fun _ h' => h' = HL h b (Go.Sort.siftDown ltE hi first root d).toList sp) := by
  obtain ⟨c, hc1, hc2⟩ := res118
  refine ACalls.enter Try.func118 hc1 Try.ntmps118 hc2 (Nat.le_of_ble_eq_true rfl) rfl ?_
  repeat' (first | refine S.nilK ?_ | (refine S.op rfl ?_; first | refine R.mv rfl ?_ | refine R.loadR rfl rfl ?_ | refine R.load (by decide) rfl (by first | assumption | exact AHeap.set_same _ _ _) rfl ?_ | refine S.addI rfl rfl (by omega) ?_ | refine S.addU rfl rfl ?_ | refine S.addUc rfl (by decide) ?_ | refine S.arith rfl rfl rfl ?_ | refine R.pickT rfl rfl ?_ | refine R.pickF rfl rfl ?_ | refine R.not rfl ?_ | ((first | refine S.lss rfl rfl ?_ ?_ | refine S.geq rfl rfl ?_ ?_) <;> intro hlt <;> try (exfalso; omega))) | (refine S.op0 rfl ?_; first | refine S.storeS rfl rfl rfl (by rfl) rfl (by first | decide | exact Nat.le_refl _ | exact Nat.le_of_ble_eq_true rfl) ?_ | refine S.store rfl rfl (by first | assumption | exact AHeap.set_same _ _ _) rfl rfl rfl (by rfl) rfl ?_) | refine S.skip rfl ?_ | refine S.skip0 rfl ?_ | refine S.seq ?_ | refine S.region ?_ | refine S.condT rfl ?_ | refine S.condF rfl ?_ | refine RRun.skip ?_ | refine RRun.block ?_ | refine RRun.inBlock ?_ | refine RRun.exit rfl ?_)
  exact RRun.loopIn (S.keep [0, 2, 3, 8] rfl (sift_loop b cap n hi first sp h hn hfi hi root d hd (by omega) hr))

/-! ### heapSort -/
def r108l0 : RCode :=
  (.seq (.seq (.region [
    ⟨(some 18), none, .act, .mv (.tmp 9)⟩,
    ⟨(some 19), none, .act, .bin .geq (.tmp 18) (.const (.int .i64 0))⟩])
  (.cond (.tmp 19)
   .skip
   (.exit 0)))
  (.seq (.block 1
   (.region [
     ⟨(some 22), none, .act, .mv (.tmp 0)⟩,
     ⟨(some 23), none, .act, .mv (.tmp 9)⟩,
     ⟨(some 24), none, .act, .mv (.tmp 8)⟩,
     ⟨(some 25), none, .act, .mv (.tmp 6)⟩,
     ⟨(some 26), none, .act, .call 118 [(.tmp 22), (.tmp 23), (.tmp 24), (.tmp 25)]⟩]))
  (.region [
    ⟨(some 20), none, .act, .mv (.tmp 9)⟩,
    ⟨(some 21), none, .act, .bin .sub (.tmp 20) (.const (.int .i64 1))⟩,
    ⟨(some 9), none, .act, .mv (.tmp 21)⟩])))
def r108l1 : RCode :=
  (.seq (.seq (.region [
    ⟨(some 29), none, .act, .mv (.tmp 10)⟩,
    ⟨(some 30), none, .act, .bin .geq (.tmp 29) (.const (.int .i64 0))⟩])
  (.cond (.tmp 30)
   .skip
   (.exit 2)))
  (.seq (.block 3
   (.seq (.region [
     ⟨(some 33), none, .pure, .mv (.tmp 0)⟩,
     ⟨(some 34), none, .pure, .mv (.tmp 6)⟩,
     ⟨(some 35), none, .pure, .mv (.tmp 0)⟩,
     ⟨(some 36), none, .pure, .mv (.tmp 6)⟩,
     ⟨(some 37), none, .pure, .mv (.tmp 10)⟩,
     ⟨(some 38), none, .pure, .bin .add (.tmp 36) (.tmp 37)⟩,
     ⟨(some 39), none, .pure, .mv (.tmp 0)⟩,
     ⟨(some 40), none, .pure, .mv (.tmp 6)⟩,
     ⟨(some 41), none, .pure, .mv (.tmp 10)⟩,
     ⟨(some 42), none, .pure, .bin .add (.tmp 40) (.tmp 41)⟩,
     ⟨(some 43), none, .pure, .indexAddr 1 (.tmp 39) (.tmp 42)⟩,
     ⟨(some 44), none, .read, .load false 1 (.tmp 43)⟩,
     ⟨(some 45), none, .pure, .mv (.tmp 0)⟩,
     ⟨(some 46), none, .pure, .mv (.tmp 6)⟩,
     ⟨(some 47), none, .pure, .indexAddr 1 (.tmp 45) (.tmp 46)⟩,
     ⟨(some 48), none, .read, .load false 1 (.tmp 47)⟩,
     ⟨(some 49), none, .pure, .indexAddr 1 (.tmp 33) (.tmp 34)⟩,
     ⟨none, none, .act, .store 1 (.tmp 49) (.tmp 44)⟩,
     ⟨(some 50), none, .pure, .indexAddr 1 (.tmp 35) (.tmp 38)⟩,
     ⟨none, none, .act, .store 1 (.tmp 50) (.tmp 48)⟩])
   (.region [
     ⟨(some 51), none, .act, .mv (.tmp 0)⟩,
     ⟨(some 52), none, .act, .mv (.tmp 7)⟩,
     ⟨(some 53), none, .act, .mv (.tmp 10)⟩,
     ⟨(some 54), none, .act, .mv (.tmp 6)⟩,
     ⟨(some 55), none, .act, .call 118 [(.tmp 51), (.tmp 52), (.tmp 53), (.tmp 54)]⟩])))
  (.region [
    ⟨(some 31), none, .act, .mv (.tmp 10)⟩,
    ⟨(some 32), none, .act, .bin .sub (.tmp 31) (.const (.int .i64 1))⟩,
    ⟨(some 10), none, .act, .mv (.tmp 32)⟩])))
/-- slices.heapSortOrdered[uint64] -/
def r108 : RCode :=
  (.seq (.region [
    ⟨(some 11), none, .act, .mv (.tmp 1)⟩,
    ⟨(some 6), none, .act, .mv (.tmp 11)⟩])
  (.seq (.region [
    ⟨(some 7), none, .act, .mv (.const (.int .i64 0))⟩])
  (.seq (.region [
    ⟨(some 12), none, .act, .mv (.tmp 2)⟩,
    ⟨(some 13), none, .act, .mv (.tmp 1)⟩,
    ⟨(some 14), none, .act, .bin .sub (.tmp 12) (.tmp 13)⟩,
    ⟨(some 8), none, .act, .mv (.tmp 14)⟩])
  (.seq (.seq (.region [
    ⟨(some 15), none, .act, .mv (.tmp 8)⟩,
    ⟨(some 16), none, .act, .bin .sub (.tmp 15) (.const (.int .i64 1))⟩,
    ⟨(some 17), none, .act, .bin .quo (.tmp 16) (.const (.int .i64 2))⟩,
    ⟨(some 9), none, .act, .mv (.tmp 17)⟩])
  (.block 0
   (.loop r108l0)))
  (.seq (.region [
    ⟨(some 27), none, .act, .mv (.tmp 8)⟩,
    ⟨(some 28), none, .act, .bin .sub (.tmp 27) (.const (.int .i64 1))⟩,
    ⟨(some 10), none, .act, .mv (.tmp 28)⟩])
  (.block 2
   (.loop r108l1)))))))
theorem res108 : ∃ c, Try.f108.body = some c ∧ resCode Try.prog 56 c = some r108 := ⟨_, rfl, by kernel_rfl⟩
theorem rr108 : resRes Try.prog Try.f108.results.toList = some [] := by kernel_rfl

theorem heap_build (b cap n a hi lo : Nat) (sp : List AV) (h : AHeap) (hn : n ≤ 1000000) (hai : a + hi ≤ n) (k : List RT) (Q : AV → AHeap → Prop) : ∀ (m : Nat) (d : Array SE), d.size = n → m ≤ n →
    (∀ d', d' = Go.Sort.heapBuild ltE hi a m d → d'.size = n → RRun Try.prog Try.f108 56 k (Env.get [(0, slAt b 0 n cap), (6, i64 a), (7, i64 lo), (8, i64 hi)]) (HL h b d'.toList sp) Q) →
    RRun Try.prog Try.f108 56 (.inLoop r108l0 :: .inBlock 0 :: k) (Env.get [(0, slAt b 0 n cap), (6, i64 a), (7, i64 lo), (8, i64 hi), (9, i64 ((m : Int) - 1))]) (HL h b d.toList sp) Q := by
  intro m
  induction m with
  | zero =>
    intro d hd hm hk
    refine RRun.inLoop ?_
    repeat' (first | refine S.nilK ?_ | (refine S.op rfl ?_; first | refine R.mv rfl ?_ | refine R.loadR rfl rfl ?_ | refine R.load (by decide) rfl (by first | assumption | exact AHeap.set_same _ _ _) rfl ?_ | refine S.addI rfl rfl (by omega) ?_ | refine S.subI rfl rfl (by omega) ?_ | refine S.addU rfl rfl ?_ | refine S.subU rfl rfl ?_ | refine S.addUc rfl (by decide) ?_ | refine S.subUc rfl (by decide) ?_ | refine S.arith rfl rfl rfl ?_ | ((first | refine S.geq rfl rfl ?_ ?_) <;> intro hlt <;> try (exfalso; omega))) | (refine S.op0 rfl ?_; first | refine S.storeS rfl rfl rfl (by rfl) rfl (by first | decide | exact Nat.le_refl _ | exact Nat.le_of_ble_eq_true rfl) ?_ | refine S.store rfl rfl (by first | assumption | exact AHeap.set_same _ _ _) rfl rfl rfl (by rfl) rfl ?_) | refine S.skip rfl ?_ | refine S.skip0 rfl ?_ | refine S.seq ?_ | refine S.region ?_ | refine S.condT rfl ?_ | refine S.condF rfl ?_ | refine RRun.skip ?_ | refine RRun.block ?_ | refine RRun.inBlock ?_ | refine RRun.exit rfl ?_)
    exact S.keep [0, 6, 7, 8] rfl (hk d rfl hd)
  | succ m ih =>
    intro d hd hm hk
    refine RRun.inLoop ?_
    rw [show (((m + 1 : Nat) : Int) - 1) = (m : Int) by omega]
    repeat' (first | refine S.nilK ?_ | (refine S.op rfl ?_; first | refine callU rfl rfl (siftDown_spec b cap n m hi a sp h hn hai (by omega) d hd) (fun x => ?_) | refine R.mv rfl ?_ | refine R.loadR rfl rfl ?_ | refine R.load (by decide) rfl (by first | assumption | exact AHeap.set_same _ _ _) rfl ?_ | refine S.addI rfl rfl (by omega) ?_ | refine S.subI rfl rfl (by omega) ?_ | refine S.addU rfl rfl ?_ | refine S.subU rfl rfl ?_ | refine S.addUc rfl (by decide) ?_ | refine S.subUc rfl (by decide) ?_ | refine S.arith rfl rfl rfl ?_ | ((first | refine S.geq rfl rfl ?_ ?_) <;> intro hlt <;> try (exfalso; omega))) | (refine S.op0 rfl ?_; first | refine S.storeS rfl rfl rfl (by rfl) rfl (by first | decide | exact Nat.le_refl _ | exact Nat.le_of_ble_eq_true rfl) ?_ | refine S.store rfl rfl (by first | assumption | exact AHeap.set_same _ _ _) rfl rfl rfl (by rfl) rfl ?_) | refine S.skip rfl ?_ | refine S.skip0 rfl ?_ | refine S.seq ?_ | refine S.region ?_ | refine S.condT rfl ?_ | refine S.condF rfl ?_ | refine RRun.skip ?_ | refine RRun.block ?_ | refine RRun.inBlock ?_ | refine RRun.exit rfl ?_)
    exact S.keep [0, 6, 7, 8, 9] rfl (ih _ (by rw [sift_size hi a hi m d (by omega)]; exact hd) (by omega) hk)

theorem heap_pop (b cap n a : Nat) (sp : List AV) (h : AHeap) (hn : n ≤ 1000000) (k : List RT) (Q : AV → AHeap → Prop) : ∀ (m : Nat) (d : Array SE), d.size = n → a + m ≤ n →
    (∀ d', d' = Go.Sort.heapPop ltE a m d → d'.size = n → RRun Try.prog Try.f108 56 k (Env.get []) (HL h b d'.toList sp) Q) →
    RRun Try.prog Try.f108 56 (.inLoop r108l1 :: .inBlock 2 :: k) (Env.get [(0, slAt b 0 n cap), (6, i64 a), (7, i64 (0 : Nat)), (10, i64 ((m : Int) - 1))]) (HL h b d.toList sp) Q := by
  intro m
  induction m with
  | zero =>
    intro d hd hm hk
    refine RRun.inLoop ?_
    repeat' (first | refine S.nilK ?_ | (refine S.op rfl ?_; first | refine R.mv rfl ?_ | refine R.loadR rfl rfl ?_ | refine R.load (by decide) rfl (by first | assumption | exact AHeap.set_same _ _ _) rfl ?_ | refine S.addI rfl rfl (by omega) ?_ | refine S.subI rfl rfl (by omega) ?_ | refine S.addU rfl rfl ?_ | refine S.subU rfl rfl ?_ | refine S.addUc rfl (by decide) ?_ | refine S.subUc rfl (by decide) ?_ | refine S.arith rfl rfl rfl ?_ | ((first | refine S.geq rfl rfl ?_ ?_) <;> intro hlt <;> try (exfalso; omega))) | (refine S.op0 rfl ?_; first | refine S.storeS rfl rfl rfl (by rfl) rfl (by first | decide | exact Nat.le_refl _ | exact Nat.le_of_ble_eq_true rfl) ?_ | refine S.store rfl rfl (by first | assumption | exact AHeap.set_same _ _ _) rfl rfl rfl (by rfl) rfl ?_) | refine S.skip rfl ?_ | refine S.skip0 rfl ?_ | refine S.seq ?_ | refine S.region ?_ | refine S.condT rfl ?_ | refine S.condF rfl ?_ | refine RRun.skip ?_ | refine RRun.block ?_ | refine RRun.inBlock ?_ | refine RRun.exit rfl ?_)
    exact S.keep [] rfl (hk d rfl hd)
  | succ m ih =>
    intro d hd hm hk
    refine RRun.inLoop ?_
    rw [show (((m + 1 : Nat) : Int) - 1) = (m : Int) by omega]
    repeat' (first | (refine S.op0 rfl (S.stE rfl rfl rfl (by simp only [List.length_set, Array.length_toList]; omega) ?_)) | refine S.nilK ?_ | (refine S.op rfl ?_; first | refine S.addNN (n := 1) rfl rfl (by omega) ?_ | refine S.addNN rfl rfl (by omega) ?_ | refine S.subNN (n := 1) rfl rfl (by omega) (by omega) ?_ | refine S.subNN rfl rfl (by omega) (by omega) ?_ | refine S.mulNN (m := 2) rfl rfl (by omega) ?_ | refine S.ix rfl rfl (by omega) ?_ | refine S.ldE (by decide) rfl (by omega) ?_ | refine R.mv rfl ?_ | refine R.loadR rfl rfl ?_ | refine R.load (by decide) rfl (by first | assumption | exact AHeap.set_same _ _ _) rfl ?_ | refine S.addI rfl rfl (by omega) ?_ | refine S.subI rfl rfl (by omega) ?_ | refine S.addU rfl rfl ?_ | refine S.subU rfl rfl ?_ | refine S.addUc rfl (by decide) ?_ | refine S.subUc rfl (by decide) ?_ | refine S.arith rfl rfl rfl ?_ | ((first | refine S.geq rfl rfl ?_ ?_) <;> intro hlt <;> try (exfalso; omega))) | (refine S.op0 rfl ?_; first | refine S.storeS rfl rfl rfl (by rfl) rfl (by first | decide | exact Nat.le_refl _ | exact Nat.le_of_ble_eq_true rfl) ?_ | refine S.store rfl rfl (by first | assumption | exact AHeap.set_same _ _ _) rfl rfl rfl (by rfl) rfl ?_) | refine S.skip rfl ?_ | refine S.skip0 rfl ?_ | refine S.seq ?_ | refine S.region ?_ | refine S.condT rfl ?_ | refine S.condF rfl ?_ | refine RRun.skip ?_ | refine RRun.block ?_ | refine RRun.inBlock ?_ | refine RRun.exit rfl ?_)
    rw [swp_list]
    repeat' (first | refine S.nilK ?_ | (refine S.op rfl ?_; first | refine callU rfl rfl (siftDown_spec b cap n 0 m a sp h hn (by omega) (by omega) (swp d a (a + m)) (by rw [swp_size]; exact hd)) (fun x => ?_) | refine R.mv rfl ?_ | refine R.loadR rfl rfl ?_ | refine R.load (by decide) rfl (by first | assumption | exact AHeap.set_same _ _ _) rfl ?_ | refine S.addI rfl rfl (by omega) ?_ | refine S.subI rfl rfl (by omega) ?_ | refine S.addU rfl rfl ?_ | refine S.subU rfl rfl ?_ | refine S.addUc rfl (by decide) ?_ | refine S.subUc rfl (by decide) ?_ | refine S.arith rfl rfl rfl ?_ | ((first | refine S.geq rfl rfl ?_ ?_) <;> intro hlt <;> try (exfalso; omega))) | (refine S.op0 rfl ?_; first | refine S.storeS rfl rfl rfl (by rfl) rfl (by first | decide | exact Nat.le_refl _ | exact Nat.le_of_ble_eq_true rfl) ?_ | refine S.store rfl rfl (by first | assumption | exact AHeap.set_same _ _ _) rfl rfl rfl (by rfl) rfl ?_) | refine S.skip rfl ?_ | refine S.skip0 rfl ?_ | refine S.seq ?_ | refine S.region ?_ | refine S.condT rfl ?_ | refine S.condF rfl ?_ | refine RRun.skip ?_ | refine RRun.block ?_ | refine RRun.inBlock ?_ | refine RRun.exit rfl ?_)
    exact S.keep [0, 6, 7, 10] rfl (ih _ (by rw [sift_size m a m 0 _ (by omega), swp_size]; exact hd) (by omega) hk)

theorem heapSort_spec (b cap n a e : Nat) (sp : List AV) (h : AHeap) (hn : n ≤ 1000000) (he : e ≤ n) (ha : a ≤ e) (d : Array SE) (hd : d.size = n) (hlong : 1 ≤ e - a) :
    ACalls Try.prog 108 [slAt b 0 n cap, i64 a, i64 e] (HL h b d.toList sp) (fun _ h' => h' = HL h b (Go.Sort.heapSort ltE d a e).toList sp) := by
  obtain ⟨c, hc1, hc2⟩ := res108
  refine ACalls.enter Try.func108 hc1 Try.ntmps108 hc2 (Nat.le_of_ble_eq_true rfl) rfl ?_
  repeat' (first | (refine S.op0 rfl (S.stE rfl rfl rfl (by simp only [List.length_set, Array.length_toList]; omega) ?_)) | refine S.nilK ?_ | (refine S.op rfl ?_; first | refine S.addNN (n := 1) rfl rfl (by omega) ?_ | refine S.addNN rfl rfl (by omega) ?_ | refine S.subNN (n := 1) rfl rfl (by omega) (by omega) ?_ | refine S.subNN rfl rfl (by omega) (by omega) ?_ | refine S.mulNN (m := 2) rfl rfl (by omega) ?_ | refine S.ix rfl rfl (by omega) ?_ | refine S.ldE (by decide) rfl (by omega) ?_ | refine S.quoNN (n := 2) rfl rfl (by decide) (by omega) ?_ | refine R.mv rfl ?_ | refine R.loadR rfl rfl ?_ | refine R.load (by decide) rfl (by first | assumption | exact AHeap.set_same _ _ _) rfl ?_ | refine S.addI rfl rfl (by omega) ?_ | refine S.subI rfl rfl (by omega) ?_ | refine S.addU rfl rfl ?_ | refine S.subU rfl rfl ?_ | refine S.addUc rfl (by decide) ?_ | refine S.subUc rfl (by decide) ?_ | refine S.arith rfl rfl rfl ?_ | ((first | refine S.geq rfl rfl ?_ ?_) <;> intro hlt <;> try (exfalso; omega))) | (refine S.op0 rfl ?_; first | refine S.storeS rfl rfl rfl (by rfl) rfl (by first | decide | exact Nat.le_refl _ | exact Nat.le_of_ble_eq_true rfl) ?_ | refine S.store rfl rfl (by first | assumption | exact AHeap.set_same _ _ _) rfl rfl rfl (by rfl) rfl ?_) | refine S.skip rfl ?_ | refine S.skip0 rfl ?_ | refine S.seq ?_ | refine S.region ?_ | refine S.condT rfl ?_ | refine S.condF rfl ?_ | refine RRun.skip ?_ | refine RRun.block ?_ | refine RRun.inBlock ?_ | refine RRun.exit rfl ?_)
  rw [show (((e - a - 1) / 2 : Nat) : Int) = (((e - a - 1) / 2 + 1 : Nat) : Int) - 1 by omega]
  refine RRun.loopIn (S.keep [0, 6, 7, 8, 9] rfl (heap_build b cap n a (e - a) 0 sp h hn (by omega) _ _ ((e - a - 1) / 2 + 1) d hd (by omega) (fun d1 e1 hd1 => ?_)))
  repeat' (first | refine S.nilK ?_ | (refine S.op rfl ?_; first | refine R.mv rfl ?_ | refine R.loadR rfl rfl ?_ | refine R.load (by decide) rfl (by first | assumption | exact AHeap.set_same _ _ _) rfl ?_ | refine S.addI rfl rfl (by omega) ?_ | refine S.subI rfl rfl (by omega) ?_ | refine S.addU rfl rfl ?_ | refine S.subU rfl rfl ?_ | refine S.addUc rfl (by decide) ?_ | refine S.subUc rfl (by decide) ?_ | refine S.arith rfl rfl rfl ?_ | ((first | refine S.geq rfl rfl ?_ ?_) <;> intro hlt <;> try (exfalso; omega))) | (refine S.op0 rfl ?_; first | refine S.storeS rfl rfl rfl (by rfl) rfl (by first | decide | exact Nat.le_refl _ | exact Nat.le_of_ble_eq_true rfl) ?_ | refine S.store rfl rfl (by first | assumption | exact AHeap.set_same _ _ _) rfl rfl rfl (by rfl) rfl ?_) | refine S.skip rfl ?_ | refine S.skip0 rfl ?_ | refine S.seq ?_ | refine S.region ?_ | refine S.condT rfl ?_ | refine S.condF rfl ?_ | refine RRun.skip ?_ | refine RRun.block ?_ | refine RRun.inBlock ?_ | refine RRun.exit rfl ?_)
  refine RRun.loopIn (S.keep [0, 6, 7, 10] rfl (heap_pop b cap n a sp h hn _ _ (e - a) d1 hd1 (by omega) (fun d2 e2 hd2 => ?_)))
  repeat' (first | refine S.nilK ?_ | (refine S.op rfl ?_; first | refine R.mv rfl ?_ | refine R.loadR rfl rfl ?_ | refine R.load (by decide) rfl (by first | assumption | exact AHeap.set_same _ _ _) rfl ?_ | refine S.addI rfl rfl (by omega) ?_ | refine S.subI rfl rfl (by omega) ?_ | refine S.addU rfl rfl ?_ | refine S.subU rfl rfl ?_ | refine S.addUc rfl (by decide) ?_ | refine S.subUc rfl (by decide) ?_ | refine S.arith rfl rfl rfl ?_ | ((first | refine S.geq rfl rfl ?_ ?_) <;> intro hlt <;> try (exfalso; omega))) | (refine S.op0 rfl ?_; first | refine S.storeS rfl rfl rfl (by rfl) rfl (by first | decide | exact Nat.le_refl _ | exact Nat.le_of_ble_eq_true rfl) ?_ | refine S.store rfl rfl (by first | assumption | exact AHeap.set_same _ _ _) rfl rfl rfl (by rfl) rfl ?_) | refine S.skip rfl ?_ | refine S.skip0 rfl ?_ | refine S.seq ?_ | refine S.region ?_ | refine S.condT rfl ?_ | refine S.condF rfl ?_ | refine RRun.skip ?_ | refine RRun.block ?_ | refine RRun.inBlock ?_ | refine RRun.exit rfl ?_)
  apply S.done rr108
  case hx => repeat (first | exact ResAt.nil | apply ResAt.tmp rfl | apply ResAt.cellA rfl (by first | assumption | exact AHeap.set_same _ _ _) (by rfl) | apply ResAt.cell1 rfl (by first | assumption | exact AHeap.set_same _ _ _) (by rfl))
  rw [e2, e1]
  rfl

/-! ### reverseRange -/
def r111l0 : RCode :=
  (.seq (.seq (.region [
    ⟨(some 11), none, .act, .mv (.tmp 6)⟩,
    ⟨(some 12), none, .act, .mv (.tmp 7)⟩,
    ⟨(some 13), none, .act, .bin .lss (.tmp 11) (.tmp 12)⟩])
  (.cond (.tmp 13)
   .skip
   (.exit 0)))
  (.block 1
   (.seq (.region [
     ⟨(some 14), none, .pure, .mv (.tmp 0)⟩,
     ⟨(some 15), none, .pure, .mv (.tmp 6)⟩,
     ⟨(some 16), none, .pure, .mv (.tmp 0)⟩,
     ⟨(some 17), none, .pure, .mv (.tmp 7)⟩,
     ⟨(some 18), none, .pure, .mv (.tmp 0)⟩,
     ⟨(some 19), none, .pure, .mv (.tmp 7)⟩,
     ⟨(some 20), none, .pure, .indexAddr 1 (.tmp 18) (.tmp 19)⟩,
     ⟨(some 21), none, .read, .load false 1 (.tmp 20)⟩,
     ⟨(some 22), none, .pure, .mv (.tmp 0)⟩,
     ⟨(some 23), none, .pure, .mv (.tmp 6)⟩,
     ⟨(some 24), none, .pure, .indexAddr 1 (.tmp 22) (.tmp 23)⟩,
     ⟨(some 25), none, .read, .load false 1 (.tmp 24)⟩,
     ⟨(some 26), none, .pure, .indexAddr 1 (.tmp 14) (.tmp 15)⟩,
     ⟨none, none, .act, .store 1 (.tmp 26) (.tmp 21)⟩,
     ⟨(some 27), none, .pure, .indexAddr 1 (.tmp 16) (.tmp 17)⟩,
     ⟨none, none, .act, .store 1 (.tmp 27) (.tmp 25)⟩])
   (.seq (.region [
     ⟨(some 28), none, .act, .mv (.tmp 6)⟩,
     ⟨(some 29), none, .act, .bin .add (.tmp 28) (.const (.int .i64 1))⟩,
     ⟨(some 6), none, .act, .mv (.tmp 29)⟩])
   (.region [
     ⟨(some 30), none, .act, .mv (.tmp 7)⟩,
     ⟨(some 31), none, .act, .bin .sub (.tmp 30) (.const (.int .i64 1))⟩,
     ⟨(some 7), none, .act, .mv (.tmp 31)⟩])))))
/-- slices.reverseRangeOrdered[uint64] -/
def r111 : RCode :=
  (.seq (.region [
    ⟨(some 8), none, .act, .mv (.tmp 1)⟩,
    ⟨(some 6), none, .act, .mv (.tmp 8)⟩])
  (.seq (.region [
    ⟨(some 9), none, .act, .mv (.tmp 2)⟩,
    ⟨(some 10), none, .act, .bin .sub (.tmp 9) (.const (.int .i64 1))⟩,
    ⟨(some 7), none, .act, .mv (.tmp 10)⟩])
  (.block 0
   (.loop r111l0))))
theorem res111 : ∃ c, Try.f111.body = some c ∧ resCode Try.prog 32 c = some r111 := ⟨_, rfl, by kernel_rfl⟩
theorem rr111 : resRes Try.prog Try.f111.results.toList = some [] := by kernel_rfl

theorem rev_size : ∀ (f i j : Nat) (d : Array SE), j ≤ i + f → (Go.Sort.reverseLoop i j d).size = d.size := by
  intro f
  induction f with
  | zero => intro i j d hf; unfold Go.Sort.reverseLoop; rw [if_neg (by omega)]
  | succ f ih =>
    intro i j d hf
    unfold Go.Sort.reverseLoop
    split
    · rw [ih _ _ _ (by omega), swp_size]
    · rfl

theorem rev_loop (b cap n : Nat) (sp : List AV) (h : AHeap) (hn : n ≤ 1000000) (k : List RT) (Q : AV → AHeap → Prop) : ∀ (f i j : Nat) (d : Array SE), d.size = n → j < n → j ≤ i + f →
    RRun Try.prog Try.f111 32 k (Env.get []) (HL h b (Go.Sort.reverseLoop i j d).toList sp) Q →
    RRun Try.prog Try.f111 32 (.inLoop r111l0 :: .inBlock 0 :: k) (Env.get [(0, slAt b 0 n cap), (6, i64 i), (7, i64 j)]) (HL h b d.toList sp) Q := by
  have stop : ∀ (i j : Nat) (d : Array SE), ¬ i < j → RRun Try.prog Try.f111 32 k (Env.get []) (HL h b (Go.Sort.reverseLoop i j d).toList sp) Q →
    RRun Try.prog Try.f111 32 (.inLoop r111l0 :: .inBlock 0 :: k) (Env.get [(0, slAt b 0 n cap), (6, i64 i), (7, i64 j)]) (HL h b d.toList sp) Q := by
    intro i j d hij hk
    unfold Go.Sort.reverseLoop at hk
    rw [if_neg hij] at hk
    refine RRun.inLoop ?_
    repeat' (first | refine S.nilK ?_ | (refine S.op rfl ?_; first | refine R.mv rfl ?_ | refine R.loadR rfl rfl ?_ | refine R.load (by decide) rfl (by first | assumption | exact AHeap.set_same _ _ _) rfl ?_ | refine S.addI rfl rfl (by omega) ?_ | refine S.subI rfl rfl (by omega) ?_ | refine S.addU rfl rfl ?_ | refine S.subU rfl rfl ?_ | refine S.addUc rfl (by decide) ?_ | refine S.subUc rfl (by decide) ?_ | ((first | refine S.lss rfl rfl ?_ ?_) <;> intro hlt <;> try (exfalso; omega))) | (refine S.op0 rfl ?_; first | refine S.storeS rfl rfl rfl (by rfl) rfl (by first | decide | exact Nat.le_refl _ | exact Nat.le_of_ble_eq_true rfl) ?_ | refine S.store rfl rfl (by first | assumption | exact AHeap.set_same _ _ _) rfl rfl rfl (by rfl) rfl ?_) | refine S.skip rfl ?_ | refine S.skip0 rfl ?_ | refine S.seq ?_ | refine S.region ?_ | refine S.condT rfl ?_ | refine S.condF rfl ?_ | refine RRun.skip ?_ | refine RRun.block ?_ | refine RRun.inBlock ?_ | refine RRun.exit rfl ?_)
    exact S.keep [] rfl hk
  intro f
  induction f with
  | zero => intro i j d hd hj hf hk; exact stop i j d (by omega) hk
  | succ f ih =>
    intro i j d hd hj hf hk
    by_cases hij : i < j
    · unfold Go.Sort.reverseLoop at hk
      rw [if_pos hij] at hk
      refine RRun.inLoop ?_
      repeat' (first | (refine S.op0 rfl (S.stE rfl rfl rfl (by simp only [List.length_set, Array.length_toList]; omega) ?_)) | refine S.nilK ?_ | (refine S.op rfl ?_; first | refine S.addNN (n := 1) rfl rfl (by omega) ?_ | refine S.addNN rfl rfl (by omega) ?_ | refine S.subNN (n := 1) rfl rfl (by omega) (by omega) ?_ | refine S.subNN rfl rfl (by omega) (by omega) ?_ | refine S.mulNN (m := 2) rfl rfl (by omega) ?_ | refine S.ix rfl rfl (by omega) ?_ | refine S.ldE (by decide) rfl (by omega) ?_ | refine R.mv rfl ?_ | refine R.loadR rfl rfl ?_ | refine R.load (by decide) rfl (by first | assumption | exact AHeap.set_same _ _ _) rfl ?_ | refine S.addI rfl rfl (by omega) ?_ | refine S.subI rfl rfl (by omega) ?_ | refine S.addU rfl rfl ?_ | refine S.subU rfl rfl ?_ | refine S.addUc rfl (by decide) ?_ | refine S.subUc rfl (by decide) ?_ | ((first | refine S.lss rfl rfl ?_ ?_) <;> intro hlt <;> try (exfalso; omega))) | (refine S.op0 rfl ?_; first | refine S.storeS rfl rfl rfl (by rfl) rfl (by first | decide | exact Nat.le_refl _ | exact Nat.le_of_ble_eq_true rfl) ?_ | refine S.store rfl rfl (by first | assumption | exact AHeap.set_same _ _ _) rfl rfl rfl (by rfl) rfl ?_) | refine S.skip rfl ?_ | refine S.skip0 rfl ?_ | refine S.seq ?_ | refine S.region ?_ | refine S.condT rfl ?_ | refine S.condF rfl ?_ | refine RRun.skip ?_ | refine RRun.block ?_ | refine RRun.inBlock ?_ | refine RRun.exit rfl ?_)
      rw [swp_list]
      exact S.keep [0, 6, 7] rfl (ih (i + 1) (j - 1) _ (by rw [swp_size]; exact hd) (by omega) (by omega) hk)
    · exact stop i j d hij hk

theorem reverseRange_spec (b cap n a e : Nat) (sp : List AV) (h : AHeap) (hn : n ≤ 1000000) (he : e ≤ n) (ha : a < e) (d : Array SE) (hd : d.size = n) :
    ACalls Try.prog 111 [slAt b 0 n cap, i64 a, i64 e] (HL h b d.toList sp) (fun _ h' => h' = HL h b (Go.Sort.reverseRange d a e).toList sp) := by
  obtain ⟨c, hc1, hc2⟩ := res111
  refine ACalls.enter Try.func111 hc1 Try.ntmps111 hc2 (Nat.le_of_ble_eq_true rfl) rfl ?_
  repeat' (first | (refine S.op0 rfl (S.stE rfl rfl rfl (by simp only [List.length_set, Array.length_toList]; omega) ?_)) | refine S.nilK ?_ | (refine S.op rfl ?_; first | refine S.addNN (n := 1) rfl rfl (by omega) ?_ | refine S.addNN rfl rfl (by omega) ?_ | refine S.subNN (n := 1) rfl rfl (by omega) (by omega) ?_ | refine S.subNN rfl rfl (by omega) (by omega) ?_ | refine S.mulNN (m := 2) rfl rfl (by omega) ?_ | refine S.ix rfl rfl (by omega) ?_ | refine S.ldE (by decide) rfl (by omega) ?_ | refine R.mv rfl ?_ | refine R.loadR rfl rfl ?_ | refine R.load (by decide) rfl (by first | assumption | exact AHeap.set_same _ _ _) rfl ?_ | refine S.addI rfl rfl (by omega) ?_ | refine S.subI rfl rfl (by omega) ?_ | refine S.addU rfl rfl ?_ | refine S.subU rfl rfl ?_ | refine S.addUc rfl (by decide) ?_ | refine S.subUc rfl (by decide) ?_ | ((first | refine S.lss rfl rfl ?_ ?_) <;> intro hlt <;> try (exfalso; omega))) | (refine S.op0 rfl ?_; first | refine S.storeS rfl rfl rfl (by rfl) rfl (by first | decide | exact Nat.le_refl _ | exact Nat.le_of_ble_eq_true rfl) ?_ | refine S.store rfl rfl (by first | assumption | exact AHeap.set_same _ _ _) rfl rfl rfl (by rfl) rfl ?_) | refine S.skip rfl ?_ | refine S.skip0 rfl ?_ | refine S.seq ?_ | refine S.region ?_ | refine S.condT rfl ?_ | refine S.condF rfl ?_ | refine RRun.skip ?_ | refine RRun.block ?_ | refine RRun.inBlock ?_ | refine RRun.exit rfl ?_)
  refine RRun.loopIn (S.keep [0, 6, 7] rfl (rev_loop b cap n sp h hn _ _ e a (e - 1) d hd (by omega) (by omega) ?_))
  repeat' (first | refine S.nilK ?_ | (refine S.op rfl ?_; first | refine R.mv rfl ?_ | refine R.loadR rfl rfl ?_ | refine R.load (by decide) rfl (by first | assumption | exact AHeap.set_same _ _ _) rfl ?_ | refine S.addI rfl rfl (by omega) ?_ | refine S.subI rfl rfl (by omega) ?_ | refine S.addU rfl rfl ?_ | refine S.subU rfl rfl ?_ | refine S.addUc rfl (by decide) ?_ | refine S.subUc rfl (by decide) ?_ | ((first | refine S.lss rfl rfl ?_ ?_) <;> intro hlt <;> try (exfalso; omega))) | (refine S.op0 rfl ?_; first | refine S.storeS rfl rfl rfl (by rfl) rfl (by first | decide | exact Nat.le_refl _ | exact Nat.le_of_ble_eq_true rfl) ?_ | refine S.store rfl rfl (by first | assumption | exact AHeap.set_same _ _ _) rfl rfl rfl (by rfl) rfl ?_) | refine S.skip rfl ?_ | refine S.skip0 rfl ?_ | refine S.seq ?_ | refine S.region ?_ | refine S.condT rfl ?_ | refine S.condF rfl ?_ | refine RRun.skip ?_ | refine RRun.block ?_ | refine RRun.inBlock ?_ | refine RRun.exit rfl ?_)
  apply S.done rr111
  case hx => repeat (first | exact ResAt.nil | apply ResAt.tmp rfl | apply ResAt.cellA rfl (by first | assumption | exact AHeap.set_same _ _ _) (by rfl) | apply ResAt.cell1 rfl (by first | assumption | exact AHeap.set_same _ _ _) (by rfl))
  rfl

end Go.Proofs.Ytnmgamcmjjngcaa
