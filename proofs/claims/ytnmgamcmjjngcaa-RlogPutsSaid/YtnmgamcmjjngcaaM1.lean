import Derived.Test.YtnmgamcmjjngcaaT2
import Derived.Test.YtnmgamcmjjngcaaAvZ
import Derived.Sort.AssemblyPlain
set_option linter.unusedVariables false
set_option linter.unusedSimpArgs false
namespace Go.Proofs.Ytnmgamcmjjngcaa
open Go.Av
open Go.Sort (swp PermIn SortedIn Below SWO)

/-! ### Rows of numbers that are sorted in their place -/

abbrev SE := UInt64
abbrev enc (x : SE) : AV := Go.Av.u64 x
def ltE (x y : SE) : Bool := decide (x < y)

theorem swo_ltE : SWO ltE where
  irrefl := fun x => by simp [ltE]
  trans := fun x y z h1 h2 => by simp only [ltE, decide_eq_true_eq, UInt64.lt_iff_toNat_lt] at *; omega
  ntrans := fun x y z h1 h2 => by simp only [ltE, decide_eq_false_iff_not, UInt64.lt_iff_toNat_lt] at *; omega

/-- A row of numbers. -/
def HL (h : AHeap) (b : Nat) (l : List SE) (sp : List AV) : AHeap := h.set b (.box (l.map enc ++ sp))
theorem HL_at (h : AHeap) (b : Nat) (l : List SE) (sp : List AV) : HL h b l sp b = some (.box (l.map enc ++ sp)) := AHeap.set_same _ _ _
theorem HL_set (h : AHeap) (b : Nat) (l l' : List SE) (sp : List AV) : (HL h b l sp).set b (.box (l'.map enc ++ sp)) = HL h b l' sp := AHeap.set_set _ _ _ _

theorem swp_list (d : Array SE) (i j : Nat) : (d.toList.set i d[j]!).set j d[i]! = (swp d i j).toList := by
  simp [swp]
theorem swp_size (d : Array SE) (i j : Nat) : (swp d i j).size = d.size := by simp [swp]

section
variable {P : Program} {c : Cls} {E : AEnv} {h : AHeap} {K : AV → AHeap → Prop} {b : Nat} {sp : List AV}

theorem S.addNN {x y : Operand} {m n : Nat} (hx : aev E x = some (i64 ((m : Nat) : Int))) (hy : aev E y = some (i64 ((n : Nat) : Int))) (hb : m + n ≤ 9223372036854775807) (hk : K (i64 ((m + n : Nat) : Int)) h) : ROpS P c (.bin .add x y) E h K :=
  S.addI hx hy (by omega) (by rw [show ((m : Int) + (n : Int)) = ((m + n : Nat) : Int) by omega]; exact hk)
theorem S.subNN {x y : Operand} {m n : Nat} (hx : aev E x = some (i64 ((m : Nat) : Int))) (hy : aev E y = some (i64 ((n : Nat) : Int))) (hb : n ≤ m) (hb2 : m ≤ 9223372036854775807) (hk : K (i64 ((m - n : Nat) : Int)) h) : ROpS P c (.bin .sub x y) E h K :=
  S.subI hx hy (by omega) (by rw [show ((m : Int) - (n : Int)) = ((m - n : Nat) : Int) by omega]; exact hk)
theorem S.ix {x i : Operand} {len cap n : Nat} (hx : aev E x = some (slAt b 0 len cap)) (hi : aev E i = some (i64 ((n : Nat) : Int))) (hn : n < len) (hk : K (ptrAt b n) h) : ROpS P c (.indexAddr 1 x i) E h K :=
  R.indexAddrV hx hi (by omega) (by omega) (by
    have e : 0 + ((n : Nat) : Int).toNat * 1 = n := by omega
    rw [e]; exact hk)
theorem S.ldE {x : Operand} {d : Array SE} {n : Nat} (hc : c ≠ .pure) (hx : aev E x = some (ptrAt b n)) (hn : n < d.size) (hk : K (enc d[n]!) (HL h b d.toList sp)) : ROpS P c (.load false 1 x) E (HL h b d.toList sp) K := by
  refine R.load hc hx (HL_at _ _ _ _) ?_ hk
  have h1 : ((d.toList.map enc)[n]?) = some (enc d[n]!) := by
    rw [List.getElem?_map, Array.getElem?_toList, Array.getElem?_eq_getElem hn, getElem!_pos d n hn]; rfl
  have hl : n < (d.toList.map enc).length := by simp; exact hn
  rw [List.drop_append_of_le_length (by omega), List.drop_eq_getElem_cons hl]
  have : (d.toList.map enc)[n] = enc d[n]! := by rw [List.getElem?_eq_getElem hl] at h1; exact Option.some.inj h1
  rw [this]; rfl
theorem S.stE {x y : Operand} {l : List SE} {n : Nat} {v : SE} (hc : c = .act) (hx : aev E x = some (ptrAt b n)) (hy : aev E y = some (enc v)) (hn : n < l.length) (hk : K (.v undef) (HL h b (l.set n v) sp)) : ROpS P c (.store 1 x y) E (HL h b l sp) K := by
  have hl : n < (l.map enc).length := by simp; exact hn
  refine R.store hc hx (HL_at _ _ _ _) hy rfl rfl (by simp; omega) ?_
  have : over (l.map enc ++ sp) n [enc v] = (l.set n v).map enc ++ sp := by
    unfold over
    rw [List.take_append_of_le_length (by omega), List.drop_append_of_le_length (by simp; omega), ← List.append_assoc, List.map_set]
    congr 1
    rw [List.set_eq_take_append_cons_drop, if_pos hl]
    simp
  rw [this, HL_set]; exact hk
end

/-- cmp.isNaN[uint64] -/
def r123 : RCode :=
  (.seq (.region [
    ⟨(some 2), none, .act, .mv (.const (.bool false))⟩])
  (.seq (.region [
    ⟨(some 3), none, .act, .mv (.tmp 0)⟩,
    ⟨(some 4), none, .act, .mv (.tmp 0)⟩,
    ⟨(some 5), none, .act, .eq true .int (.tmp 3) (.tmp 4)⟩,
    ⟨(some 2), none, .act, .mv (.tmp 5)⟩])
  .ret))
theorem res123 : ∃ c, Try.f123.body = some c ∧ resCode Try.prog 6 c = some r123 := ⟨_, rfl, by kernel_rfl⟩
theorem rr123 : resRes Try.prog Try.f123.results.toList = some [.tmp 2] := by kernel_rfl
theorem isNaN_spec (x : SE) (h : AHeap) : ACalls Try.prog 123 [enc x] h (fun y h' => y = bl false ∧ h' = h) := by
  obtain ⟨c, hc1, hc2⟩ := res123
  refine ACalls.enter Try.func123 hc1 Try.ntmps123 hc2 (Nat.le_of_ble_eq_true rfl) rfl ?_
  repeat' (first | refine S.nilK ?_ | (refine S.op rfl ?_; first | refine S.eqIntSame rfl rfl ?_ | refine R.mv rfl ?_ | refine R.eqPtrNil rfl rfl ?_ | ((first | refine S.eqInt rfl rfl ?_ ?_) <;> intro hlt <;> try (exfalso; omega))) | refine S.skip rfl ?_ | refine S.skip0 rfl ?_ | refine S.seq ?_ | refine S.region ?_ | refine S.condT rfl ?_ | refine S.condF rfl ?_ | refine RRun.skip ?_ | refine RRun.block ?_ | refine RRun.inBlock ?_ | refine RRun.exit rfl ?_)
  apply S.ret rr123
  case hx => repeat (first | exact ResAt.nil | apply ResAt.tmp rfl | apply ResAt.cellA rfl (by first | assumption | exact AHeap.set_same _ _ _) (by rfl) | apply ResAt.cell1 rfl (by first | assumption | exact AHeap.set_same _ _ _) (by rfl))
  exact ⟨rfl, rfl⟩

/-- cmp.Less[uint64] -/
def r113 : RCode :=
  (.seq (.region [
    ⟨(some 4), none, .act, .mv (.const (.bool false))⟩])
  (.seq (.region [
    ⟨(some 5), none, .act, .mv (.tmp 0)⟩,
    ⟨(some 6), none, .act, .call 123 [(.tmp 5)]⟩,
    ⟨(some 7), none, .act, .mv (.tmp 6)⟩,
    ⟨(some 8), (some (7, true)), .act, .mv (.tmp 1)⟩,
    ⟨(some 9), (some (7, true)), .act, .call 123 [(.tmp 8)]⟩,
    ⟨(some 10), (some (7, true)), .act, .un .not (.tmp 9)⟩,
    ⟨(some 11), none, .act, .pick (.tmp 7) (.tmp 10) (.const (.bool false))⟩,
    ⟨(some 12), none, .act, .mv (.tmp 11)⟩,
    ⟨(some 13), (some (12, false)), .act, .mv (.tmp 0)⟩,
    ⟨(some 14), (some (12, false)), .act, .mv (.tmp 1)⟩,
    ⟨(some 15), (some (12, false)), .act, .bin .lss (.tmp 13) (.tmp 14)⟩,
    ⟨(some 16), none, .act, .pick (.tmp 12) (.const (.bool true)) (.tmp 15)⟩,
    ⟨(some 4), none, .act, .mv (.tmp 16)⟩])
  .ret))
theorem res113 : ∃ c, Try.f113.body = some c ∧ resCode Try.prog 17 c = some r113 := ⟨_, rfl, by kernel_rfl⟩
theorem rr113 : resRes Try.prog Try.f113.results.toList = some [.tmp 4] := by kernel_rfl
theorem less_is {x y : SE} {r : Bool} (hr : ltE x y = r) (h : AHeap) : ACalls Try.prog 113 [enc x, enc y] h (fun z h' => z = bl r ∧ h' = h) := by
  obtain ⟨c, hc1, hc2⟩ := res113
  refine ACalls.enter Try.func113 hc1 Try.ntmps113 hc2 (Nat.le_of_ble_eq_true rfl) rfl ?_
  subst hr
  by_cases hlt : x < y
  · have e : ltE x y = true := by simp [ltE, hlt]
    have hn := UInt64.lt_iff_toNat_lt.1 hlt
    repeat' (first | refine S.nilK ?_ | (refine S.op rfl ?_; first | refine callS rfl rfl (isNaN_spec _ _) ?_ | refine R.mv rfl ?_ | refine R.pickT rfl rfl ?_ | refine R.pickF rfl rfl ?_ | refine R.not rfl ?_ | ((first | refine S.lss rfl rfl ?_ ?_) <;> intro hlt <;> try (exfalso; omega))) | refine S.skip rfl ?_ | refine S.skip0 rfl ?_ | refine S.seq ?_ | refine S.region ?_ | refine S.condT rfl ?_ | refine S.condF rfl ?_ | refine RRun.skip ?_ | refine RRun.block ?_ | refine RRun.inBlock ?_ | refine RRun.exit rfl ?_)
    apply S.ret rr113
    case hx => repeat (first | exact ResAt.nil | apply ResAt.tmp rfl | apply ResAt.cellA rfl (by first | assumption | exact AHeap.set_same _ _ _) (by rfl) | apply ResAt.cell1 rfl (by first | assumption | exact AHeap.set_same _ _ _) (by rfl))
    exact ⟨by rw [e]; rfl, rfl⟩
  · have e : ltE x y = false := by simp [ltE, hlt]
    have hn : ¬ x.toNat < y.toNat := fun q => hlt (UInt64.lt_iff_toNat_lt.2 q)
    repeat' (first | refine S.nilK ?_ | (refine S.op rfl ?_; first | refine callS rfl rfl (isNaN_spec _ _) ?_ | refine R.mv rfl ?_ | refine R.pickT rfl rfl ?_ | refine R.pickF rfl rfl ?_ | refine R.not rfl ?_ | ((first | refine S.lss rfl rfl ?_ ?_) <;> intro hlt <;> try (exfalso; omega))) | refine S.skip rfl ?_ | refine S.skip0 rfl ?_ | refine S.seq ?_ | refine S.region ?_ | refine S.condT rfl ?_ | refine S.condF rfl ?_ | refine RRun.skip ?_ | refine RRun.block ?_ | refine RRun.inBlock ?_ | refine RRun.exit rfl ?_)
    apply S.ret rr113
    case hx => repeat (first | exact ResAt.nil | apply ResAt.tmp rfl | apply ResAt.cellA rfl (by first | assumption | exact AHeap.set_same _ _ _) (by rfl) | apply ResAt.cell1 rfl (by first | assumption | exact AHeap.set_same _ _ _) (by rfl))
    exact ⟨by rw [e]; rfl, rfl⟩

/-! ### insertionSort -/
def r107l1 : RCode :=
  (.seq (.seq (.region [
    ⟨(some 16), none, .pure, .mv (.tmp 7)⟩,
    ⟨(some 17), none, .pure, .mv (.tmp 1)⟩,
    ⟨(some 18), none, .pure, .bin .gtr (.tmp 16) (.tmp 17)⟩,
    ⟨(some 19), none, .pure, .mv (.tmp 18)⟩,
    ⟨(some 20), (some (19, true)), .pure, .mv (.tmp 0)⟩,
    ⟨(some 21), (some (19, true)), .pure, .mv (.tmp 7)⟩,
    ⟨(some 22), (some (19, true)), .pure, .indexAddr 1 (.tmp 20) (.tmp 21)⟩,
    ⟨(some 23), (some (19, true)), .read, .load false 1 (.tmp 22)⟩,
    ⟨(some 24), (some (19, true)), .pure, .mv (.tmp 0)⟩,
    ⟨(some 25), (some (19, true)), .pure, .mv (.tmp 7)⟩,
    ⟨(some 26), (some (19, true)), .pure, .bin .sub (.tmp 25) (.const (.int .i64 1))⟩,
    ⟨(some 27), (some (19, true)), .pure, .indexAddr 1 (.tmp 24) (.tmp 26)⟩,
    ⟨(some 28), (some (19, true)), .read, .load false 1 (.tmp 27)⟩,
    ⟨(some 29), (some (19, true)), .act, .call 113 [(.tmp 23), (.tmp 28)]⟩,
    ⟨(some 30), none, .pure, .pick (.tmp 19) (.tmp 29) (.const (.bool false))⟩])
  (.cond (.tmp 30)
   .skip
   (.exit 2)))
  (.seq (.block 3
   (.region [
     ⟨(some 33), none, .pure, .mv (.tmp 0)⟩,
     ⟨(some 34), none, .pure, .mv (.tmp 7)⟩,
     ⟨(some 35), none, .pure, .mv (.tmp 0)⟩,
     ⟨(some 36), none, .pure, .mv (.tmp 7)⟩,
     ⟨(some 37), none, .pure, .bin .sub (.tmp 36) (.const (.int .i64 1))⟩,
     ⟨(some 38), none, .pure, .mv (.tmp 0)⟩,
     ⟨(some 39), none, .pure, .mv (.tmp 7)⟩,
     ⟨(some 40), none, .pure, .bin .sub (.tmp 39) (.const (.int .i64 1))⟩,
     ⟨(some 41), none, .pure, .indexAddr 1 (.tmp 38) (.tmp 40)⟩,
     ⟨(some 42), none, .read, .load false 1 (.tmp 41)⟩,
     ⟨(some 43), none, .pure, .mv (.tmp 0)⟩,
     ⟨(some 44), none, .pure, .mv (.tmp 7)⟩,
     ⟨(some 45), none, .pure, .indexAddr 1 (.tmp 43) (.tmp 44)⟩,
     ⟨(some 46), none, .read, .load false 1 (.tmp 45)⟩,
     ⟨(some 47), none, .pure, .indexAddr 1 (.tmp 33) (.tmp 34)⟩,
     ⟨none, none, .act, .store 1 (.tmp 47) (.tmp 42)⟩,
     ⟨(some 48), none, .pure, .indexAddr 1 (.tmp 35) (.tmp 37)⟩,
     ⟨none, none, .act, .store 1 (.tmp 48) (.tmp 46)⟩]))
  (.region [
    ⟨(some 31), none, .act, .mv (.tmp 7)⟩,
    ⟨(some 32), none, .act, .bin .sub (.tmp 31) (.const (.int .i64 1))⟩,
    ⟨(some 7), none, .act, .mv (.tmp 32)⟩])))
def r107l0 : RCode :=
  (.seq (.seq (.region [
    ⟨(some 10), none, .act, .mv (.tmp 6)⟩,
    ⟨(some 11), none, .act, .mv (.tmp 2)⟩,
    ⟨(some 12), none, .act, .bin .lss (.tmp 10) (.tmp 11)⟩])
  (.cond (.tmp 12)
   .skip
   (.exit 0)))
  (.seq (.block 1
   (.seq (.region [
     ⟨(some 15), none, .act, .mv (.tmp 6)⟩,
     ⟨(some 7), none, .act, .mv (.tmp 15)⟩])
   (.block 2
    (.loop r107l1))))
  (.region [
    ⟨(some 13), none, .act, .mv (.tmp 6)⟩,
    ⟨(some 14), none, .act, .bin .add (.tmp 13) (.const (.int .i64 1))⟩,
    ⟨(some 6), none, .act, .mv (.tmp 14)⟩])))
/-- slices.insertionSortOrdered[uint64] -/
def r107 : RCode :=
  (.seq (.region [
    ⟨(some 8), none, .act, .mv (.tmp 1)⟩,
    ⟨(some 9), none, .act, .bin .add (.tmp 8) (.const (.int .i64 1))⟩,
    ⟨(some 6), none, .act, .mv (.tmp 9)⟩])
  (.block 0
   (.loop r107l0)))
theorem res107 : ∃ c, Try.f107.body = some c ∧ resCode Try.prog 49 c = some r107 := ⟨_, rfl, by kernel_rfl⟩
theorem rr107 : resRes Try.prog Try.f107.results.toList = some [] := by kernel_rfl

theorem ins_inner (b cap n a e i : Nat) (sp : List AV) (h : AHeap) (hn : n ≤ 1000000) (k : List RT) (Q : AV → AHeap → Prop) : ∀ (j : Nat) (d : Array SE), d.size = n → j < n →
    RRun Try.prog Try.f107 49 k (Env.get [(0, slAt b 0 n cap), (1, i64 a), (2, i64 e), (6, i64 i)]) (HL h b (Go.Sort.insInner ltE a j d).toList sp) Q →
    RRun Try.prog Try.f107 49 (.inLoop r107l1 :: .inBlock 2 :: k) (Env.get [(0, slAt b 0 n cap), (1, i64 a), (2, i64 e), (6, i64 i), (7, i64 j)]) (HL h b d.toList sp) Q := by
  intro j
  induction j with
  | zero =>
    intro d hd hj hk
    refine RRun.inLoop ?_
    repeat' (first | refine S.nilK ?_ | (refine S.op rfl ?_; first | refine R.mv rfl ?_ | refine R.loadR rfl rfl ?_ | refine R.load (by decide) rfl (by first | assumption | exact AHeap.set_same _ _ _) rfl ?_ | refine S.addI rfl rfl (by omega) ?_ | refine S.subI rfl rfl (by omega) ?_ | refine S.addU rfl rfl ?_ | refine S.subU rfl rfl ?_ | refine S.addUc rfl (by decide) ?_ | refine S.subUc rfl (by decide) ?_ | refine R.pickT rfl rfl ?_ | refine R.pickF rfl rfl ?_ | ((first | refine S.lss rfl rfl ?_ ?_ | refine S.gtr rfl rfl ?_ ?_) <;> intro hlt <;> try (exfalso; omega))) | (refine S.op0 rfl ?_; first | refine S.storeS rfl rfl rfl (by rfl) rfl (by first | decide | exact Nat.le_refl _ | exact Nat.le_of_ble_eq_true rfl) ?_ | refine S.store rfl rfl (by first | assumption | exact AHeap.set_same _ _ _) rfl rfl rfl (by rfl) rfl ?_) | refine S.skip rfl ?_ | refine S.skip0 rfl ?_ | refine S.seq ?_ | refine S.region ?_ | refine S.condT rfl ?_ | refine S.condF rfl ?_ | refine RRun.skip ?_ | refine RRun.block ?_ | refine RRun.inBlock ?_ | refine RRun.exit rfl ?_)
    exact S.keep [0, 1, 2, 6] rfl hk
  | succ j ih =>
    intro d hd hj hk
    unfold Go.Sort.insInner at hk
    by_cases ha : j + 1 > a
    · cases hl : ltE d[j + 1]! d[j]! with
      | false =>
        rw [hl] at hk
        simp only [Bool.and_false, Bool.false_eq_true, if_false] at hk
        refine RRun.inLoop ?_
        repeat' (first | (refine S.op0 rfl (S.stE rfl rfl rfl (by simp only [List.length_set, Array.length_toList]; omega) ?_)) | refine S.nilK ?_ | (refine S.op rfl ?_; first | refine S.addNN (n := 1) rfl rfl (by omega) ?_ | refine S.addNN rfl rfl (by omega) ?_ | refine S.subNN (n := 1) rfl rfl (by omega) (by omega) ?_ | refine S.subNN rfl rfl (by omega) (by omega) ?_ | refine S.ix rfl rfl (by omega) ?_ | refine S.ldE (by decide) rfl (by omega) ?_ | refine callS rfl rfl (less_is hl _) ?_ | refine R.mv rfl ?_ | refine R.loadR rfl rfl ?_ | refine R.load (by decide) rfl (by first | assumption | exact AHeap.set_same _ _ _) rfl ?_ | refine S.addI rfl rfl (by omega) ?_ | refine S.subI rfl rfl (by omega) ?_ | refine S.addU rfl rfl ?_ | refine S.subU rfl rfl ?_ | refine S.addUc rfl (by decide) ?_ | refine S.subUc rfl (by decide) ?_ | refine R.pickT rfl rfl ?_ | refine R.pickF rfl rfl ?_ | ((first | refine S.lss rfl rfl ?_ ?_ | refine S.gtr rfl rfl ?_ ?_) <;> intro hlt <;> try (exfalso; omega))) | (refine S.op0 rfl ?_; first | refine S.storeS rfl rfl rfl (by rfl) rfl (by first | decide | exact Nat.le_refl _ | exact Nat.le_of_ble_eq_true rfl) ?_ | refine S.store rfl rfl (by first | assumption | exact AHeap.set_same _ _ _) rfl rfl rfl (by rfl) rfl ?_) | refine S.skip rfl ?_ | refine S.skip0 rfl ?_ | refine S.seq ?_ | refine S.region ?_ | refine S.condT rfl ?_ | refine S.condF rfl ?_ | refine RRun.skip ?_ | refine RRun.block ?_ | refine RRun.inBlock ?_ | refine RRun.exit rfl ?_)
        exact S.keep [0, 1, 2, 6] rfl hk
      | true =>
        rw [hl] at hk
        simp only [ha, decide_true, Bool.and_true, if_true] at hk
        refine RRun.inLoop ?_
        repeat' (first | (refine S.op0 rfl (S.stE rfl rfl rfl (by simp only [List.length_set, Array.length_toList]; omega) ?_)) | refine S.nilK ?_ | (refine S.op rfl ?_; first | refine S.addNN (n := 1) rfl rfl (by omega) ?_ | refine S.addNN rfl rfl (by omega) ?_ | refine S.subNN (n := 1) rfl rfl (by omega) (by omega) ?_ | refine S.subNN rfl rfl (by omega) (by omega) ?_ | refine S.ix rfl rfl (by omega) ?_ | refine S.ldE (by decide) rfl (by omega) ?_ | refine callS rfl rfl (less_is hl _) ?_ | refine R.mv rfl ?_ | refine R.loadR rfl rfl ?_ | refine R.load (by decide) rfl (by first | assumption | exact AHeap.set_same _ _ _) rfl ?_ | refine S.addI rfl rfl (by omega) ?_ | refine S.subI rfl rfl (by omega) ?_ | refine S.addU rfl rfl ?_ | refine S.subU rfl rfl ?_ | refine S.addUc rfl (by decide) ?_ | refine S.subUc rfl (by decide) ?_ | refine R.pickT rfl rfl ?_ | refine R.pickF rfl rfl ?_ | ((first | refine S.lss rfl rfl ?_ ?_ | refine S.gtr rfl rfl ?_ ?_) <;> intro hlt <;> try (exfalso; omega))) | (refine S.op0 rfl ?_; first | refine S.storeS rfl rfl rfl (by rfl) rfl (by first | decide | exact Nat.le_refl _ | exact Nat.le_of_ble_eq_true rfl) ?_ | refine S.store rfl rfl (by first | assumption | exact AHeap.set_same _ _ _) rfl rfl rfl (by rfl) rfl ?_) | refine S.skip rfl ?_ | refine S.skip0 rfl ?_ | refine S.seq ?_ | refine S.region ?_ | refine S.condT rfl ?_ | refine S.condF rfl ?_ | refine RRun.skip ?_ | refine RRun.block ?_ | refine RRun.inBlock ?_ | refine RRun.exit rfl ?_)
        rw [Nat.add_sub_cancel, swp_list]
        exact S.keep [0, 1, 2, 6, 7] rfl (ih _ (by rw [swp_size]; exact hd) (by omega) hk)
    · simp only [ha, decide_false, Bool.false_and, Bool.false_eq_true, if_false] at hk
      refine RRun.inLoop ?_
      repeat' (first | refine S.nilK ?_ | (refine S.op rfl ?_; first | refine R.mv rfl ?_ | refine R.loadR rfl rfl ?_ | refine R.load (by decide) rfl (by first | assumption | exact AHeap.set_same _ _ _) rfl ?_ | refine S.addI rfl rfl (by omega) ?_ | refine S.subI rfl rfl (by omega) ?_ | refine S.addU rfl rfl ?_ | refine S.subU rfl rfl ?_ | refine S.addUc rfl (by decide) ?_ | refine S.subUc rfl (by decide) ?_ | refine R.pickT rfl rfl ?_ | refine R.pickF rfl rfl ?_ | ((first | refine S.lss rfl rfl ?_ ?_ | refine S.gtr rfl rfl ?_ ?_) <;> intro hlt <;> try (exfalso; omega))) | (refine S.op0 rfl ?_; first | refine S.storeS rfl rfl rfl (by rfl) rfl (by first | decide | exact Nat.le_refl _ | exact Nat.le_of_ble_eq_true rfl) ?_ | refine S.store rfl rfl (by first | assumption | exact AHeap.set_same _ _ _) rfl rfl rfl (by rfl) rfl ?_) | refine S.skip rfl ?_ | refine S.skip0 rfl ?_ | refine S.seq ?_ | refine S.region ?_ | refine S.condT rfl ?_ | refine S.condF rfl ?_ | refine RRun.skip ?_ | refine RRun.block ?_ | refine RRun.inBlock ?_ | refine RRun.exit rfl ?_)
      exact S.keep [0, 1, 2, 6] rfl hk

theorem insInner_size (a : Nat) : ∀ (j : Nat) (d : Array SE), (Go.Sort.insInner ltE a j d).size = d.size
  | 0, d => rfl
  | j + 1, d => by
    unfold Go.Sort.insInner
    split
    · rw [insInner_size a j, swp_size]
    · rfl

theorem ins_outer (b cap n a e : Nat) (sp : List AV) (h : AHeap) (hn : n ≤ 1000000) (he : e ≤ n) (k : List RT) (Q : AV → AHeap → Prop) : ∀ (m i : Nat) (d : Array SE), d.size = n → e ≤ i + m →
    RRun Try.prog Try.f107 49 k (Env.get []) (HL h b (Go.Sort.insOuter ltE a e i d).toList sp) Q →
    RRun Try.prog Try.f107 49 (.inLoop r107l0 :: .inBlock 0 :: k) (Env.get [(0, slAt b 0 n cap), (1, i64 a), (2, i64 e), (6, i64 i)]) (HL h b d.toList sp) Q := by
  have stop : ∀ (i : Nat) (d : Array SE), e ≤ i →
    RRun Try.prog Try.f107 49 k (Env.get []) (HL h b (Go.Sort.insOuter ltE a e i d).toList sp) Q →
    RRun Try.prog Try.f107 49 (.inLoop r107l0 :: .inBlock 0 :: k) (Env.get [(0, slAt b 0 n cap), (1, i64 a), (2, i64 e), (6, i64 i)]) (HL h b d.toList sp) Q := by
    intro i d hi hk
    unfold Go.Sort.insOuter at hk
    rw [if_neg (by omega)] at hk
    refine RRun.inLoop ?_
    repeat' (first | refine S.nilK ?_ | (refine S.op rfl ?_; first | refine R.mv rfl ?_ | refine R.loadR rfl rfl ?_ | refine R.load (by decide) rfl (by first | assumption | exact AHeap.set_same _ _ _) rfl ?_ | refine S.addI rfl rfl (by omega) ?_ | refine S.subI rfl rfl (by omega) ?_ | refine S.addU rfl rfl ?_ | refine S.subU rfl rfl ?_ | refine S.addUc rfl (by decide) ?_ | refine S.subUc rfl (by decide) ?_ | refine R.pickT rfl rfl ?_ | refine R.pickF rfl rfl ?_ | ((first | refine S.lss rfl rfl ?_ ?_ | refine S.gtr rfl rfl ?_ ?_) <;> intro hlt <;> try (exfalso; omega))) | (refine S.op0 rfl ?_; first | refine S.storeS rfl rfl rfl (by rfl) rfl (by first | decide | exact Nat.le_refl _ | exact Nat.le_of_ble_eq_true rfl) ?_ | refine S.store rfl rfl (by first | assumption | exact AHeap.set_same _ _ _) rfl rfl rfl (by rfl) rfl ?_) | refine S.skip rfl ?_ | refine S.skip0 rfl ?_ | refine S.seq ?_ | refine S.region ?_ | refine S.condT rfl ?_ | refine S.condF rfl ?_ | refine RRun.skip ?_ | refine RRun.block ?_ | refine RRun.inBlock ?_ | refine RRun.exit rfl ?_)
    exact S.keep [] rfl hk
  intro m
  induction m with
  | zero => intro i d hd hi hk; exact stop i d (by omega) hk
  | succ m ih =>
    intro i d hd hi hk
    by_cases hlt : i < e
    · unfold Go.Sort.insOuter at hk
      rw [if_pos hlt] at hk
      refine RRun.inLoop ?_
      repeat' (first | refine S.nilK ?_ | (refine S.op rfl ?_; first | refine R.mv rfl ?_ | refine R.loadR rfl rfl ?_ | refine R.load (by decide) rfl (by first | assumption | exact AHeap.set_same _ _ _) rfl ?_ | refine S.addI rfl rfl (by omega) ?_ | refine S.subI rfl rfl (by omega) ?_ | refine S.addU rfl rfl ?_ | refine S.subU rfl rfl ?_ | refine S.addUc rfl (by decide) ?_ | refine S.subUc rfl (by decide) ?_ | refine R.pickT rfl rfl ?_ | refine R.pickF rfl rfl ?_ | ((first | refine S.lss rfl rfl ?_ ?_ | refine S.gtr rfl rfl ?_ ?_) <;> intro hlt <;> try (exfalso; omega))) | (refine S.op0 rfl ?_; first | refine S.storeS rfl rfl rfl (by rfl) rfl (by first | decide | exact Nat.le_refl _ | exact Nat.le_of_ble_eq_true rfl) ?_ | refine S.store rfl rfl (by first | assumption | exact AHeap.set_same _ _ _) rfl rfl rfl (by rfl) rfl ?_) | refine S.skip rfl ?_ | refine S.skip0 rfl ?_ | refine S.seq ?_ | refine S.region ?_ | refine S.condT rfl ?_ | refine S.condF rfl ?_ | refine RRun.skip ?_ | refine RRun.block ?_ | refine RRun.inBlock ?_ | refine RRun.exit rfl ?_)
      refine RRun.loopIn (S.keep [0, 1, 2, 6, 7] rfl (ins_inner b cap n a e i sp h hn _ _ i d hd (by omega) ?_))
      repeat' (first | (refine S.op0 rfl (S.stE rfl rfl rfl (by simp only [List.length_set, Array.length_toList]; omega) ?_)) | refine S.nilK ?_ | (refine S.op rfl ?_; first | refine S.addNN (n := 1) rfl rfl (by omega) ?_ | refine S.addNN rfl rfl (by omega) ?_ | refine S.subNN (n := 1) rfl rfl (by omega) (by omega) ?_ | refine S.subNN rfl rfl (by omega) (by omega) ?_ | refine S.ix rfl rfl (by omega) ?_ | refine S.ldE (by decide) rfl (by omega) ?_ | refine R.mv rfl ?_ | refine R.loadR rfl rfl ?_ | refine R.load (by decide) rfl (by first | assumption | exact AHeap.set_same _ _ _) rfl ?_ | refine S.addI rfl rfl (by omega) ?_ | refine S.subI rfl rfl (by omega) ?_ | refine S.addU rfl rfl ?_ | refine S.subU rfl rfl ?_ | refine S.addUc rfl (by decide) ?_ | refine S.subUc rfl (by decide) ?_ | refine R.pickT rfl rfl ?_ | refine R.pickF rfl rfl ?_ | ((first | refine S.lss rfl rfl ?_ ?_ | refine S.gtr rfl rfl ?_ ?_) <;> intro hlt <;> try (exfalso; omega))) | (refine S.op0 rfl ?_; first | refine S.storeS rfl rfl rfl (by rfl) rfl (by first | decide | exact Nat.le_refl _ | exact Nat.le_of_ble_eq_true rfl) ?_ | refine S.store rfl rfl (by first | assumption | exact AHeap.set_same _ _ _) rfl rfl rfl (by rfl) rfl ?_) | refine S.skip rfl ?_ | refine S.skip0 rfl ?_ | refine S.seq ?_ | refine S.region ?_ | refine S.condT rfl ?_ | refine S.condF rfl ?_ | refine RRun.skip ?_ | refine RRun.block ?_ | refine RRun.inBlock ?_ | refine RRun.exit rfl ?_)
      exact S.keep [0, 1, 2, 6] rfl (ih (i + 1) _ (by rw [insInner_size]; exact hd) (by omega) hk)
    · exact stop i d (by omega) hk

theorem insertionSort_spec (b cap n a e : Nat) (sp : List AV) (h : AHeap) (hn : n ≤ 1000000) (he : e ≤ n) (ha : a ≤ n) (d : Array SE) (hd : d.size = n) :
    ACalls Try.prog 107 [slAt b 0 n cap, i64 a, i64 e] (HL h b d.toList sp) (fun _ h' => h' = HL h b (Go.Sort.insertionSort ltE d a e).toList sp) := by
  obtain ⟨c, hc1, hc2⟩ := res107
  refine ACalls.enter Try.func107 hc1 Try.ntmps107 hc2 (Nat.le_of_ble_eq_true rfl) rfl ?_
  repeat' (first | (refine S.op0 rfl (S.stE rfl rfl rfl (by simp only [List.length_set, Array.length_toList]; omega) ?_)) | refine S.nilK ?_ | (refine S.op rfl ?_; first | refine S.addNN (n := 1) rfl rfl (by omega) ?_ | refine S.addNN rfl rfl (by omega) ?_ | refine S.subNN (n := 1) rfl rfl (by omega) (by omega) ?_ | refine S.subNN rfl rfl (by omega) (by omega) ?_ | refine S.ix rfl rfl (by omega) ?_ | refine S.ldE (by decide) rfl (by omega) ?_ | refine R.mv rfl ?_ | refine R.loadR rfl rfl ?_ | refine R.load (by decide) rfl (by first | assumption | exact AHeap.set_same _ _ _) rfl ?_ | refine S.addI rfl rfl (by omega) ?_ | refine S.subI rfl rfl (by omega) ?_ | refine S.addU rfl rfl ?_ | refine S.subU rfl rfl ?_ | refine S.addUc rfl (by decide) ?_ | refine S.subUc rfl (by decide) ?_ | refine R.pickT rfl rfl ?_ | refine R.pickF rfl rfl ?_ | ((first | refine S.lss rfl rfl ?_ ?_ | refine S.gtr rfl rfl ?_ ?_) <;> intro hlt <;> try (exfalso; omega))) | (refine S.op0 rfl ?_; first | refine S.storeS rfl rfl rfl (by rfl) rfl (by first | decide | exact Nat.le_refl _ | exact Nat.le_of_ble_eq_true rfl) ?_ | refine S.store rfl rfl (by first | assumption | exact AHeap.set_same _ _ _) rfl rfl rfl (by rfl) rfl ?_) | refine S.skip rfl ?_ | refine S.skip0 rfl ?_ | refine S.seq ?_ | refine S.region ?_ | refine S.condT rfl ?_ | refine S.condF rfl ?_ | refine RRun.skip ?_ | refine RRun.block ?_ | refine RRun.inBlock ?_ | refine RRun.exit rfl ?_)
  refine RRun.loopIn (S.keep [0, 1, 2, 6] rfl (ins_outer b cap n a e sp h hn he _ _ e (a + 1) d hd (by omega) ?_))
  repeat' (first | refine S.nilK ?_ | (refine S.op rfl ?_; first | refine R.mv rfl ?_ | refine R.loadR rfl rfl ?_ | refine R.load (by decide) rfl (by first | assumption | exact AHeap.set_same _ _ _) rfl ?_ | refine S.addI rfl rfl (by omega) ?_ | refine S.subI rfl rfl (by omega) ?_ | refine S.addU rfl rfl ?_ | refine S.subU rfl rfl ?_ | refine S.addUc rfl (by decide) ?_ | refine S.subUc rfl (by decide) ?_ | refine R.pickT rfl rfl ?_ | refine R.pickF rfl rfl ?_ | ((first | refine S.lss rfl rfl ?_ ?_ | refine S.gtr rfl rfl ?_ ?_) <;> intro hlt <;> try (exfalso; omega))) | (refine S.op0 rfl ?_; first | refine S.storeS rfl rfl rfl (by rfl) rfl (by first | decide | exact Nat.le_refl _ | exact Nat.le_of_ble_eq_true rfl) ?_ | refine S.store rfl rfl (by first | assumption | exact AHeap.set_same _ _ _) rfl rfl rfl (by rfl) rfl ?_) | refine S.skip rfl ?_ | refine S.skip0 rfl ?_ | refine S.seq ?_ | refine S.region ?_ | refine S.condT rfl ?_ | refine S.condF rfl ?_ | refine RRun.skip ?_ | refine RRun.block ?_ | refine RRun.inBlock ?_ | refine RRun.exit rfl ?_)
  apply S.done rr107
  case hx => repeat (first | exact ResAt.nil | apply ResAt.tmp rfl | apply ResAt.cellA rfl (by first | assumption | exact AHeap.set_same _ _ _) (by rfl) | apply ResAt.cell1 rfl (by first | assumption | exact AHeap.set_same _ _ _) (by rfl))
  rfl

end Go.Proofs.Ytnmgamcmjjngcaa
