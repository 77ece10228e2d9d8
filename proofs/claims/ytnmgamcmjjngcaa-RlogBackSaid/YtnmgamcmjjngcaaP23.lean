/-
  A log that is put record by record is replayed as it was, for every input (where its snapshot's members may be).
-/
import Derived.Test.YtnmgamcmjjngcaaP22
import Derived.Test.YtnmgamcmjjngcaaP20
import Derived.Sort.AssemblyPlain
import Derived.Test.YtnmgamcmjjngcaaP19
set_option linter.unusedVariables false
set_option linter.unusedSimpArgs false
namespace Go.Proofs.Ytnmgamcmjjngcaa
open Go.Av
open Go.Sort (swp PermIn SortedIn Below SWO)
abbrev SE := UInt64
abbrev enc (x : SE) : AV := Go.Av.u64 x
def ltE (x y : SE) : Bool := decide (x < y)
theorem swo_ltE : SWO ltE where
  irrefl := fun x => by simp [ltE]
  trans := fun x y z h1 h2 => by simp only [ltE, decide_eq_true_eq, UInt64.lt_iff_toNat_lt] at *; omega
  ntrans := fun x y z h1 h2 => by simp only [ltE, decide_eq_false_iff_not, UInt64.lt_iff_toNat_lt] at *; omega
def HL (h : AHeap) (b : Nat) (l : List SE) (sp : List AV) : AHeap := h.set b (.box (l.map enc ++ sp))
theorem HL_at (h : AHeap) (b : Nat) (l : List SE) (sp : List AV) : HL h b l sp b = some (.box (l.map enc ++ sp)) := AHeap.set_same _ _ _
theorem HL_set (h : AHeap) (b : Nat) (l l' : List SE) (sp : List AV) : (HL h b l sp).set b (.box (l'.map enc ++ sp)) = HL h b l' sp := AHeap.set_set _ _ _ _
theorem swp_list (d : Array SE) (i j : Nat) : (d.toList.set i d[j]!).set j d[i]! = (swp d i j).toList := by
  simp [swp]
theorem swp_size (d : Array SE) (i j : Nat) : (swp d i j).size = d.size := by simp [swp]
section
variable {P : Program} {c : Cls} {E : AEnv} {h : AHeap} {K : AV → AHeap → Prop} {b : Nat} {sp : List AV}
theorem S.addNN {x y : Operand} {m n : Nat} (hx : aev E x = some (i64 ((m : Nat) : Int))) (hy : aev E y = some (i64 ((n : Nat) : Int))) (hb : m + n ≤ 9223372036854775807) (hk : K (i64 ((m + n : Nat) : Int)) h) : ROpS P c (.bin .add x y) E h K :=
  S.addI hx hy (by omega) (by rw [show ((m : Int) + (n : Int)) = ((m + n : Nat) : Int) by omega]; exact hk)
theorem S.subNN {x y : Operand} {m n : Nat} (hx : aev E x = some (i64 ((m : Nat) : Int))) (hy : aev E y = some (i64 ((n : Nat) : Int))) (hb : n ≤ m) (hb2 : m ≤ 9223372036854775807) (hk : K (i64 ((m - n : Nat) : Int)) h) : ROpS P c (.bin .sub x y) E h K :=
  S.subI hx hy (by omega) (by rw [show ((m : Int) - (n : Int)) = ((m - n : Nat) : Int) by omega]; exact hk)
theorem S.ix {x i : Operand} {len cap n : Nat} (hx : aev E x = some (slAt b 0 len cap)) (hi : aev E i = some (i64 ((n : Nat) : Int))) (hn : n < len) (hk : K (ptrAt b n) h) : ROpS P c (.indexAddr 1 x i) E h K :=
  R.indexAddrV hx hi (by omega) (by omega) (by
    have e : 0 + ((n : Nat) : Int).toNat * 1 = n := by omega
    rw [e]; exact hk)
theorem S.ldE {x : Operand} {d : Array SE} {n : Nat} (hc : c ≠ .pure) (hx : aev E x = some (ptrAt b n)) (hn : n < d.size) (hk : K (enc d[n]!) (HL h b d.toList sp)) : ROpS P c (.load false 1 x) E (HL h b d.toList sp) K := by
  refine R.load hc hx (HL_at _ _ _ _) ?_ hk
  have h1 : ((d.toList.map enc)[n]?) = some (enc d[n]!) := by
    rw [List.getElem?_map, Array.getElem?_toList, Array.getElem?_eq_getElem hn, getElem!_pos d n hn]; rfl
  have hl : n < (d.toList.map enc).length := by simp; exact hn
  rw [List.drop_append_of_le_length (by omega), List.drop_eq_getElem_cons hl]
  have : (d.toList.map enc)[n] = enc d[n]! := by rw [List.getElem?_eq_getElem hl] at h1; exact Option.some.inj h1
  rw [this]; rfl
theorem S.stE {x y : Operand} {l : List SE} {n : Nat} {v : SE} (hc : c = .act) (hx : aev E x = some (ptrAt b n)) (hy : aev E y = some (enc v)) (hn : n < l.length) (hk : K (.v undef) (HL h b (l.set n v) sp)) : ROpS P c (.store 1 x y) E (HL h b l sp) K := by
  have hl : n < (l.map enc).length := by simp; exact hn
  refine R.store hc hx (HL_at _ _ _ _) hy rfl rfl (by simp; omega) ?_
  have : over (l.map enc ++ sp) n [enc v] = (l.set n v).map enc ++ sp := by
    unfold over
    rw [List.take_append_of_le_length (by omega), List.drop_append_of_le_length (by simp; omega), ← List.append_assoc, List.map_set]
    congr 1
    rw [List.set_eq_take_append_cons_drop, if_pos hl]
    simp
  rw [this, HL_set]; exact hk
end
def r123 : RCode :=
  (.seq (.region [
    ⟨(some 2), none, .act, .mv (.const (.bool false))⟩])
  (.seq (.region [
    ⟨(some 3), none, .act, .mv (.tmp 0)⟩,
    ⟨(some 4), none, .act, .mv (.tmp 0)⟩,
    ⟨(some 5), none, .act, .eq true .int (.tmp 3) (.tmp 4)⟩,
    ⟨(some 2), none, .act, .mv (.tmp 5)⟩])
  .ret))
theorem res123 : ∃ c, Try.f123.body = some c ∧ resCode Try.prog 6 c = some r123 := ⟨_, rfl, by kernel_rfl⟩
theorem rr123 : resRes Try.prog Try.f123.results.toList = some [.tmp 2] := by kernel_rfl
theorem isNaN_spec (x : SE) (h : AHeap) : ACalls Try.prog 123 [enc x] h (fun y h' => y = bl false ∧ h' = h) := by
  obtain ⟨c, hc1, hc2⟩ := res123
  refine ACalls.enter Try.func123 hc1 Try.ntmps123 hc2 (Nat.le_of_ble_eq_true rfl) rfl ?_
  repeat' (first | refine S.nilK ?_ | (refine S.op rfl ?_; first | refine S.eqIntSame rfl rfl ?_ | refine R.mv rfl ?_) | refine S.seq ?_ | refine S.region ?_)
  apply S.ret rr123
  case hx => repeat (first | exact ResAt.nil | apply ResAt.tmp rfl)
  exact ⟨rfl, rfl⟩
def r113 : RCode :=
  (.seq (.region [
    ⟨(some 4), none, .act, .mv (.const (.bool false))⟩])
  (.seq (.region [
    ⟨(some 5), none, .act, .mv (.tmp 0)⟩,
    ⟨(some 6), none, .act, .call 123 [(.tmp 5)]⟩,
    ⟨(some 7), none, .act, .mv (.tmp 6)⟩,
    ⟨(some 8), (some (7, true)), .act, .mv (.tmp 1)⟩,
    ⟨(some 9), (some (7, true)), .act, .call 123 [(.tmp 8)]⟩,
    ⟨(some 10), (some (7, true)), .act, .un .not (.tmp 9)⟩,
    ⟨(some 11), none, .act, .pick (.tmp 7) (.tmp 10) (.const (.bool false))⟩,
    ⟨(some 12), none, .act, .mv (.tmp 11)⟩,
    ⟨(some 13), (some (12, false)), .act, .mv (.tmp 0)⟩,
    ⟨(some 14), (some (12, false)), .act, .mv (.tmp 1)⟩,
    ⟨(some 15), (some (12, false)), .act, .bin .lss (.tmp 13) (.tmp 14)⟩,
    ⟨(some 16), none, .act, .pick (.tmp 12) (.const (.bool true)) (.tmp 15)⟩,
    ⟨(some 4), none, .act, .mv (.tmp 16)⟩])
  .ret))
theorem res113 : ∃ c, Try.f113.body = some c ∧ resCode Try.prog 17 c = some r113 := ⟨_, rfl, by kernel_rfl⟩
theorem rr113 : resRes Try.prog Try.f113.results.toList = some [.tmp 4] := by kernel_rfl
theorem less_is {x y : SE} {r : Bool} (hr : ltE x y = r) (h : AHeap) : ACalls Try.prog 113 [enc x, enc y] h (fun z h' => z = bl r ∧ h' = h) := by
  obtain ⟨c, hc1, hc2⟩ := res113
  refine ACalls.enter Try.func113 hc1 Try.ntmps113 hc2 (Nat.le_of_ble_eq_true rfl) rfl ?_
  subst hr
  by_cases hlt : x < y
  · have e : ltE x y = true := by simp [ltE, hlt]
    have hn := UInt64.lt_iff_toNat_lt.1 hlt
    repeat' (first | refine S.nilK ?_ | (refine S.op rfl ?_; first | refine callS rfl rfl (isNaN_spec _ _) ?_ | refine R.mv rfl ?_ | refine R.pickF rfl rfl ?_ | ((first | refine S.lss rfl rfl ?_ ?_) <;> intro hlt <;> try (exfalso; omega))) | refine S.skip rfl ?_ | refine S.seq ?_ | refine S.region ?_)
    apply S.ret rr113
    case hx => repeat (first | exact ResAt.nil | apply ResAt.tmp rfl)
    exact ⟨by rw [e]; rfl, rfl⟩
  · have e : ltE x y = false := by simp [ltE, hlt]
    have hn : ¬ x.toNat < y.toNat := fun q => hlt (UInt64.lt_iff_toNat_lt.2 q)
    repeat' (first | refine S.nilK ?_ | (refine S.op rfl ?_; first | refine callS rfl rfl (isNaN_spec _ _) ?_ | refine R.mv rfl ?_ | refine R.pickF rfl rfl ?_ | ((first | refine S.lss rfl rfl ?_ ?_) <;> intro hlt <;> try (exfalso; omega))) | refine S.skip rfl ?_ | refine S.seq ?_ | refine S.region ?_)
    apply S.ret rr113
    case hx => repeat (first | exact ResAt.nil | apply ResAt.tmp rfl)
    exact ⟨by rw [e]; rfl, rfl⟩
def r107l1 : RCode :=
  (.seq (.seq (.region [
    ⟨(some 16), none, .pure, .mv (.tmp 7)⟩,
    ⟨(some 17), none, .pure, .mv (.tmp 1)⟩,
    ⟨(some 18), none, .pure, .bin .gtr (.tmp 16) (.tmp 17)⟩,
    ⟨(some 19), none, .pure, .mv (.tmp 18)⟩,
    ⟨(some 20), (some (19, true)), .pure, .mv (.tmp 0)⟩,
    ⟨(some 21), (some (19, true)), .pure, .mv (.tmp 7)⟩,
    ⟨(some 22), (some (19, true)), .pure, .indexAddr 1 (.tmp 20) (.tmp 21)⟩,
    ⟨(some 23), (some (19, true)), .read, .load false 1 (.tmp 22)⟩,
    ⟨(some 24), (some (19, true)), .pure, .mv (.tmp 0)⟩,
    ⟨(some 25), (some (19, true)), .pure, .mv (.tmp 7)⟩,
    ⟨(some 26), (some (19, true)), .pure, .bin .sub (.tmp 25) (.const (.int .i64 1))⟩,
    ⟨(some 27), (some (19, true)), .pure, .indexAddr 1 (.tmp 24) (.tmp 26)⟩,
    ⟨(some 28), (some (19, true)), .read, .load false 1 (.tmp 27)⟩,
    ⟨(some 29), (some (19, true)), .act, .call 113 [(.tmp 23), (.tmp 28)]⟩,
    ⟨(some 30), none, .pure, .pick (.tmp 19) (.tmp 29) (.const (.bool false))⟩])
  (.cond (.tmp 30)
   .skip
   (.exit 2)))
  (.seq (.block 3
   (.region [
     ⟨(some 33), none, .pure, .mv (.tmp 0)⟩,
     ⟨(some 34), none, .pure, .mv (.tmp 7)⟩,
     ⟨(some 35), none, .pure, .mv (.tmp 0)⟩,
     ⟨(some 36), none, .pure, .mv (.tmp 7)⟩,
     ⟨(some 37), none, .pure, .bin .sub (.tmp 36) (.const (.int .i64 1))⟩,
     ⟨(some 38), none, .pure, .mv (.tmp 0)⟩,
     ⟨(some 39), none, .pure, .mv (.tmp 7)⟩,
     ⟨(some 40), none, .pure, .bin .sub (.tmp 39) (.const (.int .i64 1))⟩,
     ⟨(some 41), none, .pure, .indexAddr 1 (.tmp 38) (.tmp 40)⟩,
     ⟨(some 42), none, .read, .load false 1 (.tmp 41)⟩,
     ⟨(some 43), none, .pure, .mv (.tmp 0)⟩,
     ⟨(some 44), none, .pure, .mv (.tmp 7)⟩,
     ⟨(some 45), none, .pure, .indexAddr 1 (.tmp 43) (.tmp 44)⟩,
     ⟨(some 46), none, .read, .load false 1 (.tmp 45)⟩,
     ⟨(some 47), none, .pure, .indexAddr 1 (.tmp 33) (.tmp 34)⟩,
     ⟨none, none, .act, .store 1 (.tmp 47) (.tmp 42)⟩,
     ⟨(some 48), none, .pure, .indexAddr 1 (.tmp 35) (.tmp 37)⟩,
     ⟨none, none, .act, .store 1 (.tmp 48) (.tmp 46)⟩]))
  (.region [
    ⟨(some 31), none, .act, .mv (.tmp 7)⟩,
    ⟨(some 32), none, .act, .bin .sub (.tmp 31) (.const (.int .i64 1))⟩,
    ⟨(some 7), none, .act, .mv (.tmp 32)⟩])))
def r107l0 : RCode :=
  (.seq (.seq (.region [
    ⟨(some 10), none, .act, .mv (.tmp 6)⟩,
    ⟨(some 11), none, .act, .mv (.tmp 2)⟩,
    ⟨(some 12), none, .act, .bin .lss (.tmp 10) (.tmp 11)⟩])
  (.cond (.tmp 12)
   .skip
   (.exit 0)))
  (.seq (.block 1
   (.seq (.region [
     ⟨(some 15), none, .act, .mv (.tmp 6)⟩,
     ⟨(some 7), none, .act, .mv (.tmp 15)⟩])
   (.block 2
    (.loop r107l1))))
  (.region [
    ⟨(some 13), none, .act, .mv (.tmp 6)⟩,
    ⟨(some 14), none, .act, .bin .add (.tmp 13) (.const (.int .i64 1))⟩,
    ⟨(some 6), none, .act, .mv (.tmp 14)⟩])))
def r107 : RCode :=
  (.seq (.region [
    ⟨(some 8), none, .act, .mv (.tmp 1)⟩,
    ⟨(some 9), none, .act, .bin .add (.tmp 8) (.const (.int .i64 1))⟩,
    ⟨(some 6), none, .act, .mv (.tmp 9)⟩])
  (.block 0
   (.loop r107l0)))
theorem res107 : ∃ c, Try.f107.body = some c ∧ resCode Try.prog 49 c = some r107 := ⟨_, rfl, by kernel_rfl⟩
theorem rr107 : resRes Try.prog Try.f107.results.toList = some [] := by kernel_rfl
theorem ins_inner (b cap n a e i : Nat) (sp : List AV) (h : AHeap) (hn : n ≤ 1000000) (k : List RT) (Q : AV → AHeap → Prop) : ∀ (j : Nat) (d : Array SE), d.size = n → j < n →
    RRun Try.prog Try.f107 49 k (Env.get [(0, slAt b 0 n cap), (1, i64 a), (2, i64 e), (6, i64 i)]) (HL h b (Go.Sort.insInner ltE a j d).toList sp) Q →
    RRun Try.prog Try.f107 49 (.inLoop r107l1 :: .inBlock 2 :: k) (Env.get [(0, slAt b 0 n cap), (1, i64 a), (2, i64 e), (6, i64 i), (7, i64 j)]) (HL h b d.toList sp) Q := by
  intro j
  induction j with
  | zero =>
    intro d hd hj hk
    refine RRun.inLoop ?_
    repeat' (first | refine S.nilK ?_ | (refine S.op rfl ?_; first | refine R.mv rfl ?_ | refine R.pickF rfl rfl ?_ | ((first | refine S.gtr rfl rfl ?_ ?_) <;> intro hlt <;> try (exfalso; omega))) | refine S.skip rfl ?_ | refine S.seq ?_ | refine S.region ?_ | refine S.condF rfl ?_ | refine RRun.exit rfl ?_)
    exact S.keep [0, 1, 2, 6] rfl hk
  | succ j ih =>
    intro d hd hj hk
    unfold Go.Sort.insInner at hk
    by_cases ha : j + 1 > a
    · cases hl : ltE d[j + 1]! d[j]! with
      | false =>
        rw [hl] at hk
        simp only [Bool.and_false, Bool.false_eq_true, if_false] at hk
        refine RRun.inLoop ?_
        repeat' (first | refine S.nilK ?_ | (refine S.op rfl ?_; first | refine S.subNN (n := 1) rfl rfl (by omega) (by omega) ?_ | refine S.ix rfl rfl (by omega) ?_ | refine S.ldE (by decide) rfl (by omega) ?_ | refine callS rfl rfl (less_is hl _) ?_ | refine R.mv rfl ?_ | refine R.pickT rfl rfl ?_ | ((first | refine S.gtr rfl rfl ?_ ?_) <;> intro hlt <;> try (exfalso; omega))) | refine S.seq ?_ | refine S.region ?_ | refine S.condF rfl ?_ | refine RRun.exit rfl ?_)
        exact S.keep [0, 1, 2, 6] rfl hk
      | true =>
        rw [hl] at hk
        simp only [ha, decide_true, Bool.and_true, if_true] at hk
        refine RRun.inLoop ?_
        repeat' (first | (refine S.op0 rfl (S.stE rfl rfl rfl (by simp only [List.length_set, Array.length_toList]; omega) ?_)) | refine S.nilK ?_ | (refine S.op rfl ?_; first | refine S.subNN (n := 1) rfl rfl (by omega) (by omega) ?_ | refine S.ix rfl rfl (by omega) ?_ | refine S.ldE (by decide) rfl (by omega) ?_ | refine callS rfl rfl (less_is hl _) ?_ | refine R.mv rfl ?_ | refine R.pickT rfl rfl ?_ | ((first | refine S.gtr rfl rfl ?_ ?_) <;> intro hlt <;> try (exfalso; omega))) | refine S.seq ?_ | refine S.region ?_ | refine S.condT rfl ?_ | refine RRun.skip ?_ | refine RRun.block ?_ | refine RRun.inBlock ?_)
        rw [Nat.add_sub_cancel, swp_list]
        exact S.keep [0, 1, 2, 6, 7] rfl (ih _ (by rw [swp_size]; exact hd) (by omega) hk)
    · simp only [ha, decide_false, Bool.false_and, Bool.false_eq_true, if_false] at hk
      refine RRun.inLoop ?_
      repeat' (first | refine S.nilK ?_ | (refine S.op rfl ?_; first | refine R.mv rfl ?_ | refine R.pickF rfl rfl ?_ | ((first | refine S.gtr rfl rfl ?_ ?_) <;> intro hlt <;> try (exfalso; omega))) | refine S.skip rfl ?_ | refine S.seq ?_ | refine S.region ?_ | refine S.condF rfl ?_ | refine RRun.exit rfl ?_)
      exact S.keep [0, 1, 2, 6] rfl hk
theorem insInner_size (a : Nat) : ∀ (j : Nat) (d : Array SE), (Go.Sort.insInner ltE a j d).size = d.size
  | 0, d => rfl
  | j + 1, d => by
    unfold Go.Sort.insInner
    split
    · rw [insInner_size a j, swp_size]
    · rfl
theorem ins_outer (b cap n a e : Nat) (sp : List AV) (h : AHeap) (hn : n ≤ 1000000) (he : e ≤ n) (k : List RT) (Q : AV → AHeap → Prop) : ∀ (m i : Nat) (d : Array SE), d.size = n → e ≤ i + m →
    RRun Try.prog Try.f107 49 k (Env.get []) (HL h b (Go.Sort.insOuter ltE a e i d).toList sp) Q →
    RRun Try.prog Try.f107 49 (.inLoop r107l0 :: .inBlock 0 :: k) (Env.get [(0, slAt b 0 n cap), (1, i64 a), (2, i64 e), (6, i64 i)]) (HL h b d.toList sp) Q := by
  have stop : ∀ (i : Nat) (d : Array SE), e ≤ i →
    RRun Try.prog Try.f107 49 k (Env.get []) (HL h b (Go.Sort.insOuter ltE a e i d).toList sp) Q →
    RRun Try.prog Try.f107 49 (.inLoop r107l0 :: .inBlock 0 :: k) (Env.get [(0, slAt b 0 n cap), (1, i64 a), (2, i64 e), (6, i64 i)]) (HL h b d.toList sp) Q := by
    intro i d hi hk
    unfold Go.Sort.insOuter at hk
    rw [if_neg (by omega)] at hk
    refine RRun.inLoop ?_
    repeat' (first | refine S.nilK ?_ | (refine S.op rfl ?_; first | refine R.mv rfl ?_ | ((first | refine S.lss rfl rfl ?_ ?_) <;> intro hlt <;> try (exfalso; omega))) | refine S.seq ?_ | refine S.region ?_ | refine S.condF rfl ?_ | refine RRun.exit rfl ?_)
    exact S.keep [] rfl hk
  intro m
  induction m with
  | zero => intro i d hd hi hk; exact stop i d (by omega) hk
  | succ m ih =>
    intro i d hd hi hk
    by_cases hlt : i < e
    · unfold Go.Sort.insOuter at hk
      rw [if_pos hlt] at hk
      refine RRun.inLoop ?_
      repeat' (first | refine S.nilK ?_ | (refine S.op rfl ?_; first | refine R.mv rfl ?_ | ((first | refine S.lss rfl rfl ?_ ?_) <;> intro hlt <;> try (exfalso; omega))) | refine S.seq ?_ | refine S.region ?_ | refine S.condT rfl ?_ | refine RRun.skip ?_ | refine RRun.block ?_)
      refine RRun.loopIn (S.keep [0, 1, 2, 6, 7] rfl (ins_inner b cap n a e i sp h hn _ _ i d hd (by omega) ?_))
      repeat' (first | refine S.nilK ?_ | (refine S.op rfl ?_; first | refine S.addNN (n := 1) rfl rfl (by omega) ?_ | refine R.mv rfl ?_) | refine S.region ?_ | refine RRun.inBlock ?_)
      exact S.keep [0, 1, 2, 6] rfl (ih (i + 1) _ (by rw [insInner_size]; exact hd) (by omega) hk)
    · exact stop i d (by omega) hk
theorem insertionSort_spec (b cap n a e : Nat) (sp : List AV) (h : AHeap) (hn : n ≤ 1000000) (he : e ≤ n) (ha : a ≤ n) (d : Array SE) (hd : d.size = n) :
    ACalls Try.prog 107 [slAt b 0 n cap, i64 a, i64 e] (HL h b d.toList sp) (fun _ h' => h' = HL h b (Go.Sort.insertionSort ltE d a e).toList sp) := by
  obtain ⟨c, hc1, hc2⟩ := res107
  refine ACalls.enter Try.func107 hc1 Try.ntmps107 hc2 (Nat.le_of_ble_eq_true rfl) rfl ?_
  repeat' (first | refine S.nilK ?_ | (refine S.op rfl ?_; first | refine S.addNN (n := 1) rfl rfl (by omega) ?_ | refine R.mv rfl ?_) | refine S.seq ?_ | refine S.region ?_ | refine RRun.block ?_)
  refine RRun.loopIn (S.keep [0, 1, 2, 6] rfl (ins_outer b cap n a e sp h hn he _ _ e (a + 1) d hd (by omega) ?_))
  repeat' (fail)
  apply S.done rr107
  case hx => repeat (first | exact ResAt.nil)
  rfl
end Go.Proofs.Ytnmgamcmjjngcaa

namespace Go.Proofs.Ytnmgamcmjjngcaa
open Go.Av
open Go.Sort (swp PermIn SortedIn Below SWO)
theorem S.mulNN {P : Program} {c : Cls} {E : AEnv} {h : AHeap} {K : AV → AHeap → Prop} {x y : Operand} {m n : Nat} (hx : aev E x = some (i64 ((m : Nat) : Int))) (hy : aev E y = some (i64 ((n : Nat) : Int))) (hb : m * n ≤ 9223372036854775807) (hk : K (i64 ((m * n : Nat) : Int)) h) : ROpS P c (.bin .mul x y) E h K :=
  R.bin hx hy (v := .int .i64 ((m * n : Nat) : Int)) (by
    show some (Value.int .i64 (IntKind.i64.wrap ((m : Int) * (n : Int)))) = _
    rw [show ((m : Int) * (n : Int)) = ((m * n : Nat) : Int) by push_cast; rfl, wrap_i64 (by omega) (by omega)]) hk
theorem S.quoNN {P : Program} {c : Cls} {E : AEnv} {h : AHeap} {K : AV → AHeap → Prop} {x y : Operand} {m n : Nat} (hx : aev E x = some (i64 ((m : Nat) : Int))) (hy : aev E y = some (i64 ((n : Nat) : Int))) (h0 : 0 < n) (hb : m ≤ 9223372036854775807) (hk : K (i64 ((m / n : Nat) : Int)) h) : ROpS P c (.bin .quo x y) E h K :=
  R.bin hx hy (v := .int .i64 ((m / n : Nat) : Int)) (by
    show (if ((n : Nat) : Int) = 0 then none else some (Value.int .i64 (IntKind.i64.wrap ((m : Int).tdiv (n : Int))))) = _
    have h1 : ((m : Int).tdiv (n : Int)) = ((m / n : Nat) : Int) := rfl
    have h2 : m / n ≤ m := Nat.div_le_self _ _
    rw [if_neg (by omega), h1]
    generalize m / n = q at h2 ⊢
    rw [wrap_i64 (by omega) (by omega)]) hk
theorem sift_size (hi first : Nat) : ∀ (f root : Nat) (d : Array SE), hi ≤ root + f → (Go.Sort.siftDown ltE hi first root d).size = d.size := by
  intro f
  induction f with
  | zero => intro root d hf; unfold Go.Sort.siftDown; rw [dif_pos (by omega)]
  | succ f ih =>
    intro root d hf
    unfold Go.Sort.siftDown
    split
    · rfl
    · split
      · split
        · rfl
        · split
          · rw [ih _ _ (by omega), swp_size]
          · rfl
      · split
        · rfl
        · rw [ih _ _ (by omega), swp_size]
def r118l0 : RCode :=
  (.block 1
   (.seq (.region [
     ⟨(some 11), none, .act, .mv (.tmp 8)⟩,
     ⟨(some 12), none, .act, .bin .mul (.const (.int .i64 2)) (.tmp 11)⟩,
     ⟨(some 13), none, .act, .bin .add (.tmp 12) (.const (.int .i64 1))⟩,
     ⟨(some 9), none, .act, .mv (.tmp 13)⟩])
   (.seq (.seq (.region [
     ⟨(some 14), none, .act, .mv (.tmp 9)⟩,
     ⟨(some 15), none, .act, .mv (.tmp 2)⟩,
     ⟨(some 16), none, .act, .bin .geq (.tmp 14) (.tmp 15)⟩])
   (.cond (.tmp 16)
    (.exit 0)
    .skip))
   (.seq (.seq (.region [
     ⟨(some 17), none, .pure, .mv (.tmp 9)⟩,
     ⟨(some 18), none, .pure, .bin .add (.tmp 17) (.const (.int .i64 1))⟩,
     ⟨(some 19), none, .pure, .mv (.tmp 2)⟩,
     ⟨(some 20), none, .pure, .bin .lss (.tmp 18) (.tmp 19)⟩,
     ⟨(some 21), none, .pure, .mv (.tmp 20)⟩,
     ⟨(some 22), (some (21, true)), .pure, .mv (.tmp 0)⟩,
     ⟨(some 23), (some (21, true)), .pure, .mv (.tmp 3)⟩,
     ⟨(some 24), (some (21, true)), .pure, .mv (.tmp 9)⟩,
     ⟨(some 25), (some (21, true)), .pure, .bin .add (.tmp 23) (.tmp 24)⟩,
     ⟨(some 26), (some (21, true)), .pure, .indexAddr 1 (.tmp 22) (.tmp 25)⟩,
     ⟨(some 27), (some (21, true)), .read, .load false 1 (.tmp 26)⟩,
     ⟨(some 28), (some (21, true)), .pure, .mv (.tmp 0)⟩,
     ⟨(some 29), (some (21, true)), .pure, .mv (.tmp 3)⟩,
     ⟨(some 30), (some (21, true)), .pure, .mv (.tmp 9)⟩,
     ⟨(some 31), (some (21, true)), .pure, .bin .add (.tmp 29) (.tmp 30)⟩,
     ⟨(some 32), (some (21, true)), .pure, .bin .add (.tmp 31) (.const (.int .i64 1))⟩,
     ⟨(some 33), (some (21, true)), .pure, .indexAddr 1 (.tmp 28) (.tmp 32)⟩,
     ⟨(some 34), (some (21, true)), .read, .load false 1 (.tmp 33)⟩,
     ⟨(some 35), (some (21, true)), .act, .call 113 [(.tmp 27), (.tmp 34)]⟩,
     ⟨(some 36), none, .pure, .pick (.tmp 21) (.tmp 35) (.const (.bool false))⟩])
   (.cond (.tmp 36)
    (.region [
      ⟨(some 37), none, .act, .mv (.tmp 9)⟩,
      ⟨(some 38), none, .act, .bin .add (.tmp 37) (.const (.int .i64 1))⟩,
      ⟨(some 9), none, .act, .mv (.tmp 38)⟩])
    .skip))
   (.seq (.seq (.region [
     ⟨(some 39), none, .pure, .mv (.tmp 0)⟩,
     ⟨(some 40), none, .pure, .mv (.tmp 3)⟩,
     ⟨(some 41), none, .pure, .mv (.tmp 8)⟩,
     ⟨(some 42), none, .pure, .bin .add (.tmp 40) (.tmp 41)⟩,
     ⟨(some 43), none, .pure, .indexAddr 1 (.tmp 39) (.tmp 42)⟩,
     ⟨(some 44), none, .read, .load false 1 (.tmp 43)⟩,
     ⟨(some 45), none, .pure, .mv (.tmp 0)⟩,
     ⟨(some 46), none, .pure, .mv (.tmp 3)⟩,
     ⟨(some 47), none, .pure, .mv (.tmp 9)⟩,
     ⟨(some 48), none, .pure, .bin .add (.tmp 46) (.tmp 47)⟩,
     ⟨(some 49), none, .pure, .indexAddr 1 (.tmp 45) (.tmp 48)⟩,
     ⟨(some 50), none, .read, .load false 1 (.tmp 49)⟩,
     ⟨(some 51), none, .act, .call 113 [(.tmp 44), (.tmp 50)]⟩,
     ⟨(some 52), none, .pure, .un .not (.tmp 51)⟩])
   (.cond (.tmp 52)
    .ret
    .skip))
   (.seq (.region [
     ⟨(some 53), none, .pure, .mv (.tmp 0)⟩,
     ⟨(some 54), none, .pure, .mv (.tmp 3)⟩,
     ⟨(some 55), none, .pure, .mv (.tmp 8)⟩,
     ⟨(some 56), none, .pure, .bin .add (.tmp 54) (.tmp 55)⟩,
     ⟨(some 57), none, .pure, .mv (.tmp 0)⟩,
     ⟨(some 58), none, .pure, .mv (.tmp 3)⟩,
     ⟨(some 59), none, .pure, .mv (.tmp 9)⟩,
     ⟨(some 60), none, .pure, .bin .add (.tmp 58) (.tmp 59)⟩,
     ⟨(some 61), none, .pure, .mv (.tmp 0)⟩,
     ⟨(some 62), none, .pure, .mv (.tmp 3)⟩,
     ⟨(some 63), none, .pure, .mv (.tmp 9)⟩,
     ⟨(some 64), none, .pure, .bin .add (.tmp 62) (.tmp 63)⟩,
     ⟨(some 65), none, .pure, .indexAddr 1 (.tmp 61) (.tmp 64)⟩,
     ⟨(some 66), none, .read, .load false 1 (.tmp 65)⟩,
     ⟨(some 67), none, .pure, .mv (.tmp 0)⟩,
     ⟨(some 68), none, .pure, .mv (.tmp 3)⟩,
     ⟨(some 69), none, .pure, .mv (.tmp 8)⟩,
     ⟨(some 70), none, .pure, .bin .add (.tmp 68) (.tmp 69)⟩,
     ⟨(some 71), none, .pure, .indexAddr 1 (.tmp 67) (.tmp 70)⟩,
     ⟨(some 72), none, .read, .load false 1 (.tmp 71)⟩,
     ⟨(some 73), none, .pure, .indexAddr 1 (.tmp 53) (.tmp 56)⟩,
     ⟨none, none, .act, .store 1 (.tmp 73) (.tmp 66)⟩,
     ⟨(some 74), none, .pure, .indexAddr 1 (.tmp 57) (.tmp 60)⟩,
     ⟨none, none, .act, .store 1 (.tmp 74) (.tmp 72)⟩])
   (.region [
     ⟨(some 75), none, .act, .mv (.tmp 9)⟩,
     ⟨(some 8), none, .act, .mv (.tmp 75)⟩])))))))
def r118 : RCode :=
  (.seq (.region [
    ⟨(some 10), none, .act, .mv (.tmp 1)⟩,
    ⟨(some 8), none, .act, .mv (.tmp 10)⟩])
  (.block 0
   (.loop r118l0)))
theorem res118 : ∃ c, Try.f118.body = some c ∧ resCode Try.prog 76 c = some r118 := ⟨_, rfl, by kernel_rfl⟩
theorem rr118 : resRes Try.prog Try.f118.results.toList = some [] := by kernel_rfl
theorem sift_tt (b cap n hi first root : Nat) (sp : List AV) (h : AHeap) (hn : n ≤ 1000000) (hfi : first + hi ≤ n) (hr : root ≤ n) (d : Array SE) (hd : d.size = n) (Q : AV → AHeap → Prop) (hge : ¬ 2 * root + 1 ≥ hi) (h2 : 2 * root + 1 + 1 < hi) (h3 : ltE d[first + (2 * root + 1)]! d[first + (2 * root + 1) + 1]! = true) (h4 : ltE d[first + root]! d[first + (2 * root + 1 + 1)]! = true) (hk : RRun Try.prog Try.f118 76 [.inLoop r118l0, .inBlock 0] (Env.get [(0, slAt b 0 n cap), (2, i64 hi), (3, i64 first), (8, i64 (2 * root + 1 + 1 : Nat))]) (HL h b (swp d (first + root) (first + (2 * root + 1 + 1))).toList sp) Q) : 
    RRun Try.prog Try.f118 76 [.inLoop r118l0, .inBlock 0] (Env.get [(0, slAt b 0 n cap), (2, i64 hi), (3, i64 first), (8, i64 root)]) (HL h b d.toList sp) Q := by
  refine RRun.inLoop ?_
  repeat' (first | (refine S.op0 rfl (S.stE rfl rfl rfl (by simp only [List.length_set, Array.length_toList]; omega) ?_)) | refine S.nilK ?_ | (refine S.op rfl ?_; first | refine S.addNN (n := 1) rfl rfl (by omega) ?_ | refine S.addNN rfl rfl (by omega) ?_ | refine S.mulNN (m := 2) rfl rfl (by omega) ?_ | refine S.ix rfl rfl (by omega) ?_ | refine S.ldE (by decide) rfl (by omega) ?_ | refine callS rfl rfl (less_is h3 _) ?_ | refine callS rfl rfl (less_is h4 _) ?_ | refine R.mv rfl ?_ | refine R.pickT rfl rfl ?_ | refine R.not rfl ?_ | ((first | refine S.lss rfl rfl ?_ ?_ | refine S.geq rfl rfl ?_ ?_) <;> intro hlt <;> try (exfalso; omega))) | refine S.seq ?_ | refine S.region ?_ | refine S.condT rfl ?_ | refine S.condF rfl ?_ | refine RRun.skip ?_ | refine RRun.block ?_ | refine RRun.inBlock ?_)
  rw [swp_list]
  exact S.keep [0, 2, 3, 8] rfl hk
theorem sift_ft (b cap n hi first root : Nat) (sp : List AV) (h : AHeap) (hn : n ≤ 1000000) (hfi : first + hi ≤ n) (hr : root ≤ n) (d : Array SE) (hd : d.size = n) (Q : AV → AHeap → Prop) (hge : ¬ 2 * root + 1 ≥ hi) (h2 : 2 * root + 1 + 1 < hi) (h3 : ltE d[first + (2 * root + 1)]! d[first + (2 * root + 1) + 1]! = false) (h4 : ltE d[first + root]! d[first + (2 * root + 1)]! = true) (hk : RRun Try.prog Try.f118 76 [.inLoop r118l0, .inBlock 0] (Env.get [(0, slAt b 0 n cap), (2, i64 hi), (3, i64 first), (8, i64 (2 * root + 1 : Nat))]) (HL h b (swp d (first + root) (first + (2 * root + 1))).toList sp) Q) : 
    RRun Try.prog Try.f118 76 [.inLoop r118l0, .inBlock 0] (Env.get [(0, slAt b 0 n cap), (2, i64 hi), (3, i64 first), (8, i64 root)]) (HL h b d.toList sp) Q := by
  refine RRun.inLoop ?_
  repeat' (first | (refine S.op0 rfl (S.stE rfl rfl rfl (by simp only [List.length_set, Array.length_toList]; omega) ?_)) | refine S.nilK ?_ | (refine S.op rfl ?_; first | refine S.addNN (n := 1) rfl rfl (by omega) ?_ | refine S.addNN rfl rfl (by omega) ?_ | refine S.mulNN (m := 2) rfl rfl (by omega) ?_ | refine S.ix rfl rfl (by omega) ?_ | refine S.ldE (by decide) rfl (by omega) ?_ | refine callS rfl rfl (less_is h3 _) ?_ | refine callS rfl rfl (less_is h4 _) ?_ | refine R.mv rfl ?_ | refine R.pickT rfl rfl ?_ | refine R.not rfl ?_ | ((first | refine S.lss rfl rfl ?_ ?_ | refine S.geq rfl rfl ?_ ?_) <;> intro hlt <;> try (exfalso; omega))) | refine S.seq ?_ | refine S.region ?_ | refine S.condF rfl ?_ | refine RRun.skip ?_ | refine RRun.block ?_ | refine RRun.inBlock ?_)
  rw [swp_list]
  exact S.keep [0, 2, 3, 8] rfl hk
theorem sift_gt (b cap n hi first root : Nat) (sp : List AV) (h : AHeap) (hn : n ≤ 1000000) (hfi : first + hi ≤ n) (hr : root ≤ n) (d : Array SE) (hd : d.size = n) (Q : AV → AHeap → Prop) (hge : ¬ 2 * root + 1 ≥ hi) (h2 : ¬ 2 * root + 1 + 1 < hi) (h4 : ltE d[first + root]! d[first + (2 * root + 1)]! = true) (hk : RRun Try.prog Try.f118 76 [.inLoop r118l0, .inBlock 0] (Env.get [(0, slAt b 0 n cap), (2, i64 hi), (3, i64 first), (8, i64 (2 * root + 1 : Nat))]) (HL h b (swp d (first + root) (first + (2 * root + 1))).toList sp) Q) : 
    RRun Try.prog Try.f118 76 [.inLoop r118l0, .inBlock 0] (Env.get [(0, slAt b 0 n cap), (2, i64 hi), (3, i64 first), (8, i64 root)]) (HL h b d.toList sp) Q := by
  refine RRun.inLoop ?_
  repeat' (first | (refine S.op0 rfl (S.stE rfl rfl rfl (by simp only [List.length_set, Array.length_toList]; omega) ?_)) | refine S.nilK ?_ | (refine S.op rfl ?_; first | refine S.addNN (n := 1) rfl rfl (by omega) ?_ | refine S.addNN rfl rfl (by omega) ?_ | refine S.mulNN (m := 2) rfl rfl (by omega) ?_ | refine S.ix rfl rfl (by omega) ?_ | refine S.ldE (by decide) rfl (by omega) ?_ | refine callS rfl rfl (less_is h4 _) ?_ | refine R.mv rfl ?_ | refine R.pickF rfl rfl ?_ | refine R.not rfl ?_ | ((first | refine S.lss rfl rfl ?_ ?_ | refine S.geq rfl rfl ?_ ?_) <;> intro hlt <;> try (exfalso; omega))) | refine S.skip rfl ?_ | refine S.seq ?_ | refine S.region ?_ | refine S.condF rfl ?_ | refine RRun.skip ?_ | refine RRun.block ?_ | refine RRun.inBlock ?_)
  rw [swp_list]
  exact S.keep [0, 2, 3, 8] rfl hk
theorem sift_tf (b cap n hi first root : Nat) (sp : List AV) (h : AHeap) (hn : n ≤ 1000000) (hfi : first + hi ≤ n) (hr : root ≤ n) (d : Array SE) (hd : d.size = n) (Q : AV → AHeap → Prop) (hge : ¬ 2 * root + 1 ≥ hi) (h2 : 2 * root + 1 + 1 < hi) (h3 : ltE d[first + (2 * root + 1)]! d[first + (2 * root + 1) + 1]! = true) (h4 : ltE d[first + root]! d[first + (2 * root + 1 + 1)]! = false) (hk : ∀ x, Q x (HL h b d.toList sp)) : 
    RRun Try.prog Try.f118 76 [.inLoop r118l0, .inBlock 0] (Env.get [(0, slAt b 0 n cap), (2, i64 hi), (3, i64 first), (8, i64 root)]) (HL h b d.toList sp) Q := by
  refine RRun.inLoop ?_
  repeat' (first | refine S.nilK ?_ | (refine S.op rfl ?_; first | refine S.addNN (n := 1) rfl rfl (by omega) ?_ | refine S.addNN rfl rfl (by omega) ?_ | refine S.mulNN (m := 2) rfl rfl (by omega) ?_ | refine S.ix rfl rfl (by omega) ?_ | refine S.ldE (by decide) rfl (by omega) ?_ | refine callS rfl rfl (less_is h3 _) ?_ | refine callS rfl rfl (less_is h4 _) ?_ | refine R.mv rfl ?_ | refine R.pickT rfl rfl ?_ | refine R.not rfl ?_ | ((first | refine S.lss rfl rfl ?_ ?_ | refine S.geq rfl rfl ?_ ?_) <;> intro hlt <;> try (exfalso; omega))) | refine S.seq ?_ | refine S.region ?_ | refine S.condT rfl ?_ | refine S.condF rfl ?_ | refine RRun.skip ?_ | refine RRun.block ?_)
  apply S.ret rr118
  case hx => repeat (first | exact ResAt.nil)
  exact hk _
theorem sift_ff (b cap n hi first root : Nat) (sp : List AV) (h : AHeap) (hn : n ≤ 1000000) (hfi : first + hi ≤ n) (hr : root ≤ n) (d : Array SE) (hd : d.size = n) (Q : AV → AHeap → Prop) (hge : ¬ 2 * root + 1 ≥ hi) (h2 : 2 * root + 1 + 1 < hi) (h3 : ltE d[first + (2 * root + 1)]! d[first + (2 * root + 1) + 1]! = false) (h4 : ltE d[first + root]! d[first + (2 * root + 1)]! = false) (hk : ∀ x, Q x (HL h b d.toList sp)) : 
    RRun Try.prog Try.f118 76 [.inLoop r118l0, .inBlock 0] (Env.get [(0, slAt b 0 n cap), (2, i64 hi), (3, i64 first), (8, i64 root)]) (HL h b d.toList sp) Q := by
  refine RRun.inLoop ?_
  repeat' (first | refine S.nilK ?_ | (refine S.op rfl ?_; first | refine S.addNN (n := 1) rfl rfl (by omega) ?_ | refine S.addNN rfl rfl (by omega) ?_ | refine S.mulNN (m := 2) rfl rfl (by omega) ?_ | refine S.ix rfl rfl (by omega) ?_ | refine S.ldE (by decide) rfl (by omega) ?_ | refine callS rfl rfl (less_is h3 _) ?_ | refine callS rfl rfl (less_is h4 _) ?_ | refine R.mv rfl ?_ | refine R.pickT rfl rfl ?_ | refine R.not rfl ?_ | ((first | refine S.lss rfl rfl ?_ ?_ | refine S.geq rfl rfl ?_ ?_) <;> intro hlt <;> try (exfalso; omega))) | refine S.seq ?_ | refine S.region ?_ | refine S.condT rfl ?_ | refine S.condF rfl ?_ | refine RRun.skip ?_ | refine RRun.block ?_)
  apply S.ret rr118
  case hx => repeat (first | exact ResAt.nil)
  exact hk _
theorem sift_gf (b cap n hi first root : Nat) (sp : List AV) (h : AHeap) (hn : n ≤ 1000000) (hfi : first + hi ≤ n) (hr : root ≤ n) (d : Array SE) (hd : d.size = n) (Q : AV → AHeap → Prop) (hge : ¬ 2 * root + 1 ≥ hi) (h2 : ¬ 2 * root + 1 + 1 < hi) (h4 : ltE d[first + root]! d[first + (2 * root + 1)]! = false) (hk : ∀ x, Q x (HL h b d.toList sp)) : 
    RRun Try.prog Try.f118 76 [.inLoop r118l0, .inBlock 0] (Env.get [(0, slAt b 0 n cap), (2, i64 hi), (3, i64 first), (8, i64 root)]) (HL h b d.toList sp) Q := by
  refine RRun.inLoop ?_
  repeat' (first | refine S.nilK ?_ | (refine S.op rfl ?_; first | refine S.addNN (n := 1) rfl rfl (by omega) ?_ | refine S.addNN rfl rfl (by omega) ?_ | refine S.mulNN (m := 2) rfl rfl (by omega) ?_ | refine S.ix rfl rfl (by omega) ?_ | refine S.ldE (by decide) rfl (by omega) ?_ | refine callS rfl rfl (less_is h4 _) ?_ | refine R.mv rfl ?_ | refine R.pickF rfl rfl ?_ | refine R.not rfl ?_ | ((first | refine S.lss rfl rfl ?_ ?_ | refine S.geq rfl rfl ?_ ?_) <;> intro hlt <;> try (exfalso; omega))) | refine S.skip rfl ?_ | refine S.seq ?_ | refine S.region ?_ | refine S.condT rfl ?_ | refine S.condF rfl ?_ | refine RRun.skip ?_ | refine RRun.block ?_)
  apply S.ret rr118
  case hx => repeat (first | exact ResAt.nil)
  exact hk _
theorem sift_loop (b cap n hi first : Nat) (sp : List AV) (h : AHeap) (hn : n ≤ 1000000) (hfi : first + hi ≤ n) : ∀ (f root : Nat) (d : Array SE), d.size = n → hi ≤ root + f → root ≤ n →
    RRun Try.prog Try.f118 76 [.inLoop r118l0, .inBlock 0] (Env.get [(0, slAt b 0 n cap), (2, i64 hi), (3, i64 first), (8, i64 root)]) (HL h b d.toList sp) (fun _ h' => h' = HL h b (Go.Sort.siftDown ltE hi first root d).toList sp) := by
  have stop : ∀ (root : Nat) (d : Array SE), root ≤ n → 2 * root + 1 ≥ hi →
    RRun Try.prog Try.f118 76 [.inLoop r118l0, .inBlock 0] (Env.get [(0, slAt b 0 n cap), (2, i64 hi), (3, i64 first), (8, i64 root)]) (HL h b d.toList sp) (fun _ h' => h' = HL h b (Go.Sort.siftDown ltE hi first root d).toList sp) := by
    intro root d hr hge
    have e : Go.Sort.siftDown ltE hi first root d = d := by unfold Go.Sort.siftDown; rw [dif_pos hge]
    refine RRun.inLoop ?_
    repeat' (first | refine S.nilK ?_ | (refine S.op rfl ?_; first | refine S.addNN (n := 1) rfl rfl (by omega) ?_ | refine S.mulNN (m := 2) rfl rfl (by omega) ?_ | refine R.mv rfl ?_ | ((first | refine S.geq rfl rfl ?_ ?_) <;> intro hlt <;> try (exfalso; omega))) | refine S.seq ?_ | refine S.region ?_ | refine S.condT rfl ?_ | refine RRun.block ?_ | refine RRun.exit rfl ?_)
    apply S.done rr118
    case hx => repeat (first | exact ResAt.nil)
    rw [e]
  intro f
  induction f with
  | zero => intro root d hd hf hr; exact stop root d hr (by omega)
  | succ f ih =>
    intro root d hd hf hr
    by_cases hge : 2 * root + 1 ≥ hi
    · exact stop root d hr hge
    · by_cases h2 : 2 * root + 1 + 1 < hi
      · cases h3 : ltE d[first + (2 * root + 1)]! d[first + (2 * root + 1) + 1]! with
        | true =>
          cases h4 : ltE d[first + root]! d[first + (2 * root + 1 + 1)]! with
          | false =>
            have e : Go.Sort.siftDown ltE hi first root d = d := by unfold Go.Sort.siftDown; rw [dif_neg hge]; simp [h2, h3, h4]
            rw [e]
            exact sift_tf b cap n hi first root sp h hn hfi hr d hd _ hge h2 h3 h4 (fun _ => rfl)
          | true =>
            have e : Go.Sort.siftDown ltE hi first root d = Go.Sort.siftDown ltE hi first (2 * root + 1 + 1) (swp d (first + root) (first + (2 * root + 1 + 1))) := by
              conv => lhs; unfold Go.Sort.siftDown
              rw [dif_neg hge]; simp [h2, h3, h4]
            rw [e]
            exact sift_tt b cap n hi first root sp h hn hfi hr d hd _ hge h2 h3 h4 (ih (2 * root + 1 + 1) _ (by rw [swp_size]; exact hd) (by omega) (by omega))
        | false =>
          cases h4 : ltE d[first + root]! d[first + (2 * root + 1)]! with
          | false =>
            have e : Go.Sort.siftDown ltE hi first root d = d := by unfold Go.Sort.siftDown; rw [dif_neg hge]; simp [h3, h4]
            rw [e]
            exact sift_ff b cap n hi first root sp h hn hfi hr d hd _ hge h2 h3 h4 (fun _ => rfl)
          | true =>
            have e : Go.Sort.siftDown ltE hi first root d = Go.Sort.siftDown ltE hi first (2 * root + 1) (swp d (first + root) (first + (2 * root + 1))) := by
              conv => lhs; unfold Go.Sort.siftDown
              rw [dif_neg hge]; simp [h3, h4]
            rw [e]
            exact sift_ft b cap n hi first root sp h hn hfi hr d hd _ hge h2 h3 h4 (ih (2 * root + 1) _ (by rw [swp_size]; exact hd) (by omega) (by omega))
      · cases h4 : ltE d[first + root]! d[first + (2 * root + 1)]! with
        | false =>
          have e : Go.Sort.siftDown ltE hi first root d = d := by unfold Go.Sort.siftDown; rw [dif_neg hge]; simp [h2, h4]
          rw [e]
          exact sift_gf b cap n hi first root sp h hn hfi hr d hd _ hge h2 h4 (fun _ => rfl)
        | true =>
          have e : Go.Sort.siftDown ltE hi first root d = Go.Sort.siftDown ltE hi first (2 * root + 1) (swp d (first + root) (first + (2 * root + 1))) := by
            conv => lhs; unfold Go.Sort.siftDown
            rw [dif_neg hge]; simp [h2, h4]
          rw [e]
          exact sift_gt b cap n hi first root sp h hn hfi hr d hd _ hge h2 h4 (ih (2 * root + 1) _ (by rw [swp_size]; exact hd) (by omega) (by omega))
theorem siftDown_spec (b cap n root hi first : Nat) (sp : List AV) (h : AHeap) (hn : n ≤ 1000000) (hfi : first + hi ≤ n) (hr : root ≤ n) (d : Array SE) (hd : d.size = n) :
    ACalls Try.prog 118 [slAt b 0 n cap, i64 root, i64 hi, i64 first] (HL h b d.toList sp) (fun _ h' => h' = HL h b (Go.Sort.siftDown ltE hi first root d).toList sp) := by
  obtain ⟨c, hc1, hc2⟩ := res118
  refine ACalls.enter Try.func118 hc1 Try.ntmps118 hc2 (Nat.le_of_ble_eq_true rfl) rfl ?_
  repeat' (first | refine S.nilK ?_ | (refine S.op rfl ?_; first | refine R.mv rfl ?_) | refine S.seq ?_ | refine S.region ?_ | refine RRun.block ?_)
  exact RRun.loopIn (S.keep [0, 2, 3, 8] rfl (sift_loop b cap n hi first sp h hn hfi hi root d hd (by omega) hr))
def r108l0 : RCode :=
  (.seq (.seq (.region [
    ⟨(some 18), none, .act, .mv (.tmp 9)⟩,
    ⟨(some 19), none, .act, .bin .geq (.tmp 18) (.const (.int .i64 0))⟩])
  (.cond (.tmp 19)
   .skip
   (.exit 0)))
  (.seq (.block 1
   (.region [
     ⟨(some 22), none, .act, .mv (.tmp 0)⟩,
     ⟨(some 23), none, .act, .mv (.tmp 9)⟩,
     ⟨(some 24), none, .act, .mv (.tmp 8)⟩,
     ⟨(some 25), none, .act, .mv (.tmp 6)⟩,
     ⟨(some 26), none, .act, .call 118 [(.tmp 22), (.tmp 23), (.tmp 24), (.tmp 25)]⟩]))
  (.region [
    ⟨(some 20), none, .act, .mv (.tmp 9)⟩,
    ⟨(some 21), none, .act, .bin .sub (.tmp 20) (.const (.int .i64 1))⟩,
    ⟨(some 9), none, .act, .mv (.tmp 21)⟩])))
def r108l1 : RCode :=
  (.seq (.seq (.region [
    ⟨(some 29), none, .act, .mv (.tmp 10)⟩,
    ⟨(some 30), none, .act, .bin .geq (.tmp 29) (.const (.int .i64 0))⟩])
  (.cond (.tmp 30)
   .skip
   (.exit 2)))
  (.seq (.block 3
   (.seq (.region [
     ⟨(some 33), none, .pure, .mv (.tmp 0)⟩,
     ⟨(some 34), none, .pure, .mv (.tmp 6)⟩,
     ⟨(some 35), none, .pure, .mv (.tmp 0)⟩,
     ⟨(some 36), none, .pure, .mv (.tmp 6)⟩,
     ⟨(some 37), none, .pure, .mv (.tmp 10)⟩,
     ⟨(some 38), none, .pure, .bin .add (.tmp 36) (.tmp 37)⟩,
     ⟨(some 39), none, .pure, .mv (.tmp 0)⟩,
     ⟨(some 40), none, .pure, .mv (.tmp 6)⟩,
     ⟨(some 41), none, .pure, .mv (.tmp 10)⟩,
     ⟨(some 42), none, .pure, .bin .add (.tmp 40) (.tmp 41)⟩,
     ⟨(some 43), none, .pure, .indexAddr 1 (.tmp 39) (.tmp 42)⟩,
     ⟨(some 44), none, .read, .load false 1 (.tmp 43)⟩,
     ⟨(some 45), none, .pure, .mv (.tmp 0)⟩,
     ⟨(some 46), none, .pure, .mv (.tmp 6)⟩,
     ⟨(some 47), none, .pure, .indexAddr 1 (.tmp 45) (.tmp 46)⟩,
     ⟨(some 48), none, .read, .load false 1 (.tmp 47)⟩,
     ⟨(some 49), none, .pure, .indexAddr 1 (.tmp 33) (.tmp 34)⟩,
     ⟨none, none, .act, .store 1 (.tmp 49) (.tmp 44)⟩,
     ⟨(some 50), none, .pure, .indexAddr 1 (.tmp 35) (.tmp 38)⟩,
     ⟨none, none, .act, .store 1 (.tmp 50) (.tmp 48)⟩])
   (.region [
     ⟨(some 51), none, .act, .mv (.tmp 0)⟩,
     ⟨(some 52), none, .act, .mv (.tmp 7)⟩,
     ⟨(some 53), none, .act, .mv (.tmp 10)⟩,
     ⟨(some 54), none, .act, .mv (.tmp 6)⟩,
     ⟨(some 55), none, .act, .call 118 [(.tmp 51), (.tmp 52), (.tmp 53), (.tmp 54)]⟩])))
  (.region [
    ⟨(some 31), none, .act, .mv (.tmp 10)⟩,
    ⟨(some 32), none, .act, .bin .sub (.tmp 31) (.const (.int .i64 1))⟩,
    ⟨(some 10), none, .act, .mv (.tmp 32)⟩])))
def r108 : RCode :=
  (.seq (.region [
    ⟨(some 11), none, .act, .mv (.tmp 1)⟩,
    ⟨(some 6), none, .act, .mv (.tmp 11)⟩])
  (.seq (.region [
    ⟨(some 7), none, .act, .mv (.const (.int .i64 0))⟩])
  (.seq (.region [
    ⟨(some 12), none, .act, .mv (.tmp 2)⟩,
    ⟨(some 13), none, .act, .mv (.tmp 1)⟩,
    ⟨(some 14), none, .act, .bin .sub (.tmp 12) (.tmp 13)⟩,
    ⟨(some 8), none, .act, .mv (.tmp 14)⟩])
  (.seq (.seq (.region [
    ⟨(some 15), none, .act, .mv (.tmp 8)⟩,
    ⟨(some 16), none, .act, .bin .sub (.tmp 15) (.const (.int .i64 1))⟩,
    ⟨(some 17), none, .act, .bin .quo (.tmp 16) (.const (.int .i64 2))⟩,
    ⟨(some 9), none, .act, .mv (.tmp 17)⟩])
  (.block 0
   (.loop r108l0)))
  (.seq (.region [
    ⟨(some 27), none, .act, .mv (.tmp 8)⟩,
    ⟨(some 28), none, .act, .bin .sub (.tmp 27) (.const (.int .i64 1))⟩,
    ⟨(some 10), none, .act, .mv (.tmp 28)⟩])
  (.block 2
   (.loop r108l1)))))))
theorem res108 : ∃ c, Try.f108.body = some c ∧ resCode Try.prog 56 c = some r108 := ⟨_, rfl, by kernel_rfl⟩
theorem rr108 : resRes Try.prog Try.f108.results.toList = some [] := by kernel_rfl
theorem heap_build (b cap n a hi lo : Nat) (sp : List AV) (h : AHeap) (hn : n ≤ 1000000) (hai : a + hi ≤ n) (k : List RT) (Q : AV → AHeap → Prop) : ∀ (m : Nat) (d : Array SE), d.size = n → m ≤ n →
    (∀ d', d' = Go.Sort.heapBuild ltE hi a m d → d'.size = n → RRun Try.prog Try.f108 56 k (Env.get [(0, slAt b 0 n cap), (6, i64 a), (7, i64 lo), (8, i64 hi)]) (HL h b d'.toList sp) Q) →
    RRun Try.prog Try.f108 56 (.inLoop r108l0 :: .inBlock 0 :: k) (Env.get [(0, slAt b 0 n cap), (6, i64 a), (7, i64 lo), (8, i64 hi), (9, i64 ((m : Int) - 1))]) (HL h b d.toList sp) Q := by
  intro m
  induction m with
  | zero =>
    intro d hd hm hk
    refine RRun.inLoop ?_
    repeat' (first | refine S.nilK ?_ | (refine S.op rfl ?_; first | refine R.mv rfl ?_ | ((first | refine S.geq rfl rfl ?_ ?_) <;> intro hlt <;> try (exfalso; omega))) | refine S.seq ?_ | refine S.region ?_ | refine S.condF rfl ?_ | refine RRun.exit rfl ?_)
    exact S.keep [0, 6, 7, 8] rfl (hk d rfl hd)
  | succ m ih =>
    intro d hd hm hk
    refine RRun.inLoop ?_
    rw [show (((m + 1 : Nat) : Int) - 1) = (m : Int) by omega]
    repeat' (first | refine S.nilK ?_ | (refine S.op rfl ?_; first | refine callU rfl rfl (siftDown_spec b cap n m hi a sp h hn hai (by omega) d hd) (fun x => ?_) | refine R.mv rfl ?_ | refine S.subI rfl rfl (by omega) ?_ | ((first | refine S.geq rfl rfl ?_ ?_) <;> intro hlt <;> try (exfalso; omega))) | refine S.seq ?_ | refine S.region ?_ | refine S.condT rfl ?_ | refine RRun.skip ?_ | refine RRun.block ?_ | refine RRun.inBlock ?_)
    exact S.keep [0, 6, 7, 8, 9] rfl (ih _ (by rw [sift_size hi a hi m d (by omega)]; exact hd) (by omega) hk)
theorem heap_pop (b cap n a : Nat) (sp : List AV) (h : AHeap) (hn : n ≤ 1000000) (k : List RT) (Q : AV → AHeap → Prop) : ∀ (m : Nat) (d : Array SE), d.size = n → a + m ≤ n →
    (∀ d', d' = Go.Sort.heapPop ltE a m d → d'.size = n → RRun Try.prog Try.f108 56 k (Env.get []) (HL h b d'.toList sp) Q) →
    RRun Try.prog Try.f108 56 (.inLoop r108l1 :: .inBlock 2 :: k) (Env.get [(0, slAt b 0 n cap), (6, i64 a), (7, i64 (0 : Nat)), (10, i64 ((m : Int) - 1))]) (HL h b d.toList sp) Q := by
  intro m
  induction m with
  | zero =>
    intro d hd hm hk
    refine RRun.inLoop ?_
    repeat' (first | refine S.nilK ?_ | (refine S.op rfl ?_; first | refine R.mv rfl ?_ | ((first | refine S.geq rfl rfl ?_ ?_) <;> intro hlt <;> try (exfalso; omega))) | refine S.seq ?_ | refine S.region ?_ | refine S.condF rfl ?_ | refine RRun.exit rfl ?_)
    exact S.keep [] rfl (hk d rfl hd)
  | succ m ih =>
    intro d hd hm hk
    refine RRun.inLoop ?_
    rw [show (((m + 1 : Nat) : Int) - 1) = (m : Int) by omega]
    repeat' (first | (refine S.op0 rfl (S.stE rfl rfl rfl (by simp only [List.length_set, Array.length_toList]; omega) ?_)) | refine S.nilK ?_ | (refine S.op rfl ?_; first | refine S.addNN rfl rfl (by omega) ?_ | refine S.ix rfl rfl (by omega) ?_ | refine S.ldE (by decide) rfl (by omega) ?_ | refine R.mv rfl ?_ | ((first | refine S.geq rfl rfl ?_ ?_) <;> intro hlt <;> try (exfalso; omega))) | refine S.seq ?_ | refine S.region ?_ | refine S.condT rfl ?_ | refine RRun.skip ?_ | refine RRun.block ?_)
    rw [swp_list]
    repeat' (first | refine S.nilK ?_ | (refine S.op rfl ?_; first | refine callU rfl rfl (siftDown_spec b cap n 0 m a sp h hn (by omega) (by omega) (swp d a (a + m)) (by rw [swp_size]; exact hd)) (fun x => ?_) | refine R.mv rfl ?_ | refine S.subI rfl rfl (by omega) ?_) | refine S.region ?_ | refine RRun.inBlock ?_)
    exact S.keep [0, 6, 7, 10] rfl (ih _ (by rw [sift_size m a m 0 _ (by omega), swp_size]; exact hd) (by omega) hk)
theorem heapSort_spec (b cap n a e : Nat) (sp : List AV) (h : AHeap) (hn : n ≤ 1000000) (he : e ≤ n) (ha : a ≤ e) (d : Array SE) (hd : d.size = n) (hlong : 1 ≤ e - a) :
    ACalls Try.prog 108 [slAt b 0 n cap, i64 a, i64 e] (HL h b d.toList sp) (fun _ h' => h' = HL h b (Go.Sort.heapSort ltE d a e).toList sp) := by
  obtain ⟨c, hc1, hc2⟩ := res108
  refine ACalls.enter Try.func108 hc1 Try.ntmps108 hc2 (Nat.le_of_ble_eq_true rfl) rfl ?_
  repeat' (first | refine S.nilK ?_ | (refine S.op rfl ?_; first | refine S.subNN (n := 1) rfl rfl (by omega) (by omega) ?_ | refine S.subNN rfl rfl (by omega) (by omega) ?_ | refine S.quoNN (n := 2) rfl rfl (by decide) (by omega) ?_ | refine R.mv rfl ?_) | refine S.seq ?_ | refine S.region ?_ | refine RRun.block ?_)
  rw [show (((e - a - 1) / 2 : Nat) : Int) = (((e - a - 1) / 2 + 1 : Nat) : Int) - 1 by omega]
  refine RRun.loopIn (S.keep [0, 6, 7, 8, 9] rfl (heap_build b cap n a (e - a) 0 sp h hn (by omega) _ _ ((e - a - 1) / 2 + 1) d hd (by omega) (fun d1 e1 hd1 => ?_)))
  repeat' (first | refine S.nilK ?_ | (refine S.op rfl ?_; first | refine R.mv rfl ?_ | refine S.subI rfl rfl (by omega) ?_) | refine S.seq ?_ | refine S.region ?_ | refine RRun.block ?_)
  refine RRun.loopIn (S.keep [0, 6, 7, 10] rfl (heap_pop b cap n a sp h hn _ _ (e - a) d1 hd1 (by omega) (fun d2 e2 hd2 => ?_)))
  repeat' (fail)
  apply S.done rr108
  case hx => repeat (first | exact ResAt.nil)
  rw [e2, e1]
  rfl
def r111l0 : RCode :=
  (.seq (.seq (.region [
    ⟨(some 11), none, .act, .mv (.tmp 6)⟩,
    ⟨(some 12), none, .act, .mv (.tmp 7)⟩,
    ⟨(some 13), none, .act, .bin .lss (.tmp 11) (.tmp 12)⟩])
  (.cond (.tmp 13)
   .skip
   (.exit 0)))
  (.block 1
   (.seq (.region [
     ⟨(some 14), none, .pure, .mv (.tmp 0)⟩,
     ⟨(some 15), none, .pure, .mv (.tmp 6)⟩,
     ⟨(some 16), none, .pure, .mv (.tmp 0)⟩,
     ⟨(some 17), none, .pure, .mv (.tmp 7)⟩,
     ⟨(some 18), none, .pure, .mv (.tmp 0)⟩,
     ⟨(some 19), none, .pure, .mv (.tmp 7)⟩,
     ⟨(some 20), none, .pure, .indexAddr 1 (.tmp 18) (.tmp 19)⟩,
     ⟨(some 21), none, .read, .load false 1 (.tmp 20)⟩,
     ⟨(some 22), none, .pure, .mv (.tmp 0)⟩,
     ⟨(some 23), none, .pure, .mv (.tmp 6)⟩,
     ⟨(some 24), none, .pure, .indexAddr 1 (.tmp 22) (.tmp 23)⟩,
     ⟨(some 25), none, .read, .load false 1 (.tmp 24)⟩,
     ⟨(some 26), none, .pure, .indexAddr 1 (.tmp 14) (.tmp 15)⟩,
     ⟨none, none, .act, .store 1 (.tmp 26) (.tmp 21)⟩,
     ⟨(some 27), none, .pure, .indexAddr 1 (.tmp 16) (.tmp 17)⟩,
     ⟨none, none, .act, .store 1 (.tmp 27) (.tmp 25)⟩])
   (.seq (.region [
     ⟨(some 28), none, .act, .mv (.tmp 6)⟩,
     ⟨(some 29), none, .act, .bin .add (.tmp 28) (.const (.int .i64 1))⟩,
     ⟨(some 6), none, .act, .mv (.tmp 29)⟩])
   (.region [
     ⟨(some 30), none, .act, .mv (.tmp 7)⟩,
     ⟨(some 31), none, .act, .bin .sub (.tmp 30) (.const (.int .i64 1))⟩,
     ⟨(some 7), none, .act, .mv (.tmp 31)⟩])))))
def r111 : RCode :=
  (.seq (.region [
    ⟨(some 8), none, .act, .mv (.tmp 1)⟩,
    ⟨(some 6), none, .act, .mv (.tmp 8)⟩])
  (.seq (.region [
    ⟨(some 9), none, .act, .mv (.tmp 2)⟩,
    ⟨(some 10), none, .act, .bin .sub (.tmp 9) (.const (.int .i64 1))⟩,
    ⟨(some 7), none, .act, .mv (.tmp 10)⟩])
  (.block 0
   (.loop r111l0))))
theorem res111 : ∃ c, Try.f111.body = some c ∧ resCode Try.prog 32 c = some r111 := ⟨_, rfl, by kernel_rfl⟩
theorem rr111 : resRes Try.prog Try.f111.results.toList = some [] := by kernel_rfl
theorem rev_loop (b cap n : Nat) (sp : List AV) (h : AHeap) (hn : n ≤ 1000000) (k : List RT) (Q : AV → AHeap → Prop) : ∀ (f i j : Nat) (d : Array SE), d.size = n → j < n → j ≤ i + f →
    RRun Try.prog Try.f111 32 k (Env.get []) (HL h b (Go.Sort.reverseLoop i j d).toList sp) Q →
    RRun Try.prog Try.f111 32 (.inLoop r111l0 :: .inBlock 0 :: k) (Env.get [(0, slAt b 0 n cap), (6, i64 i), (7, i64 j)]) (HL h b d.toList sp) Q := by
  have stop : ∀ (i j : Nat) (d : Array SE), ¬ i < j → RRun Try.prog Try.f111 32 k (Env.get []) (HL h b (Go.Sort.reverseLoop i j d).toList sp) Q →
    RRun Try.prog Try.f111 32 (.inLoop r111l0 :: .inBlock 0 :: k) (Env.get [(0, slAt b 0 n cap), (6, i64 i), (7, i64 j)]) (HL h b d.toList sp) Q := by
    intro i j d hij hk
    unfold Go.Sort.reverseLoop at hk
    rw [if_neg hij] at hk
    refine RRun.inLoop ?_
    repeat' (first | refine S.nilK ?_ | (refine S.op rfl ?_; first | refine R.mv rfl ?_ | ((first | refine S.lss rfl rfl ?_ ?_) <;> intro hlt <;> try (exfalso; omega))) | refine S.seq ?_ | refine S.region ?_ | refine S.condF rfl ?_ | refine RRun.exit rfl ?_)
    exact S.keep [] rfl hk
  intro f
  induction f with
  | zero => intro i j d hd hj hf hk; exact stop i j d (by omega) hk
  | succ f ih =>
    intro i j d hd hj hf hk
    by_cases hij : i < j
    · unfold Go.Sort.reverseLoop at hk
      rw [if_pos hij] at hk
      refine RRun.inLoop ?_
      repeat' (first | (refine S.op0 rfl (S.stE rfl rfl rfl (by simp only [List.length_set, Array.length_toList]; omega) ?_)) | refine S.nilK ?_ | (refine S.op rfl ?_; first | refine S.addNN (n := 1) rfl rfl (by omega) ?_ | refine S.subNN (n := 1) rfl rfl (by omega) (by omega) ?_ | refine S.ix rfl rfl (by omega) ?_ | refine S.ldE (by decide) rfl (by omega) ?_ | refine R.mv rfl ?_ | ((first | refine S.lss rfl rfl ?_ ?_) <;> intro hlt <;> try (exfalso; omega))) | refine S.seq ?_ | refine S.region ?_ | refine S.condT rfl ?_ | refine RRun.skip ?_ | refine RRun.block ?_ | refine RRun.inBlock ?_)
      rw [swp_list]
      exact S.keep [0, 6, 7] rfl (ih (i + 1) (j - 1) _ (by rw [swp_size]; exact hd) (by omega) (by omega) hk)
    · exact stop i j d hij hk
theorem reverseRange_spec (b cap n a e : Nat) (sp : List AV) (h : AHeap) (hn : n ≤ 1000000) (he : e ≤ n) (ha : a < e) (d : Array SE) (hd : d.size = n) :
    ACalls Try.prog 111 [slAt b 0 n cap, i64 a, i64 e] (HL h b d.toList sp) (fun _ h' => h' = HL h b (Go.Sort.reverseRange d a e).toList sp) := by
  obtain ⟨c, hc1, hc2⟩ := res111
  refine ACalls.enter Try.func111 hc1 Try.ntmps111 hc2 (Nat.le_of_ble_eq_true rfl) rfl ?_
  repeat' (first | refine S.nilK ?_ | (refine S.op rfl ?_; first | refine S.subNN (n := 1) rfl rfl (by omega) (by omega) ?_ | refine R.mv rfl ?_) | refine S.seq ?_ | refine S.region ?_ | refine RRun.block ?_)
  refine RRun.loopIn (S.keep [0, 6, 7] rfl (rev_loop b cap n sp h hn _ _ e a (e - 1) d hd (by omega) (by omega) ?_))
  repeat' (fail)
  apply S.done rr111
  case hx => repeat (first | exact ResAt.nil)
  rfl
end Go.Proofs.Ytnmgamcmjjngcaa

namespace Go.Proofs.Ytnmgamcmjjngcaa
open Go.Av
open Go.Sort (swp PermIn SortedIn Below SWO)
theorem S.ldG {P : Program} {c : Cls} {E : AEnv} {H : AHeap} {K : AV → AHeap → Prop} {b : Nat} {sp : List AV} {x : Operand} {d : Array SE} {n : Nat} (hc : c ≠ .pure) (hx : aev E x = some (ptrAt b n)) (hb : H b = some (.box (d.toList.map enc ++ sp))) (hn : n < d.size) (hk : K (enc d[n]!) H) : ROpS P c (.load false 1 x) E H K := by
  have e : HL H b d.toList sp = H := AHeap.set_eq H hb
  have := S.ldE (P := P) (c := c) (E := E) (h := H) (K := K) (b := b) (sp := sp) (x := x) (d := d) (n := n) hc hx hn
  rw [e] at this
  exact this hk
def r124 : RCode :=
  (.seq (.region [
    ⟨(some 8), none, .act, .mv (.const (.int .i64 0))⟩,
    ⟨(some 9), none, .act, .mv (.const (.int .i64 0))⟩])
  (.seq (.seq (.region [
    ⟨(some 10), none, .pure, .mv (.tmp 0)⟩,
    ⟨(some 11), none, .pure, .mv (.tmp 2)⟩,
    ⟨(some 12), none, .pure, .indexAddr 1 (.tmp 10) (.tmp 11)⟩,
    ⟨(some 13), none, .read, .load false 1 (.tmp 12)⟩,
    ⟨(some 14), none, .pure, .mv (.tmp 0)⟩,
    ⟨(some 15), none, .pure, .mv (.tmp 1)⟩,
    ⟨(some 16), none, .pure, .indexAddr 1 (.tmp 14) (.tmp 15)⟩,
    ⟨(some 17), none, .read, .load false 1 (.tmp 16)⟩,
    ⟨(some 18), none, .act, .call 113 [(.tmp 13), (.tmp 17)]⟩])
  (.cond (.tmp 18)
   (.seq (.region [
     ⟨(some 19), none, .act, .mv (.tmp 3)⟩,
     ⟨(some 20), none, .act, .nilCheck (.tmp 19)⟩,
     ⟨(some 21), none, .act, .load false 1 (.tmp 20)⟩,
     ⟨(some 22), none, .act, .bin .add (.tmp 21) (.const (.int .i64 1))⟩,
     ⟨(some 23), none, .act, .nilCheck (.tmp 19)⟩,
     ⟨none, none, .act, .store 1 (.tmp 23) (.tmp 22)⟩])
   (.seq (.region [
     ⟨(some 24), none, .act, .mv (.tmp 2)⟩,
     ⟨(some 25), none, .act, .mv (.tmp 1)⟩,
     ⟨(some 8), none, .act, .mv (.tmp 24)⟩,
     ⟨(some 9), none, .act, .mv (.tmp 25)⟩])
   .ret))
   .skip))
  (.seq (.region [
    ⟨(some 26), none, .act, .mv (.tmp 1)⟩,
    ⟨(some 27), none, .act, .mv (.tmp 2)⟩,
    ⟨(some 8), none, .act, .mv (.tmp 26)⟩,
    ⟨(some 9), none, .act, .mv (.tmp 27)⟩])
  .ret)))
theorem res124 : ∃ c, Try.f124.body = some c ∧ resCode Try.prog 28 c = some r124 := ⟨_, rfl, by kernel_rfl⟩
theorem rr124 : resRes Try.prog Try.f124.results.toList = some [.tmp 8, .tmp 9] := by kernel_rfl
theorem order2_spec (b cap n u v p : Nat) (sp : List AV) (hn : n ≤ 1000000) (hu : u < n) (hv : v < n) (d : Array SE) (hd : d.size = n) (H : AHeap) (hb : H b = some (.box (d.toList.map enc ++ sp))) (kk : Nat) (hk : kk ≤ 100) (hp : H p = some (.box [i64 kk])) :
    ACalls Try.prog 124 [slAt b 0 n cap, i64 u, i64 v, ptr p] H (fun x h' => ∃ (u' v' kk' : Nat), x = .tu [i64 u', i64 v'] ∧ h' = H.set p (.box [i64 kk']) ∧ kk' ≤ kk + 1 ∧ ((u' = u ∧ v' = v) ∨ (u' = v ∧ v' = u))) := by
  obtain ⟨c, hc1, hc2⟩ := res124
  refine ACalls.enter Try.func124 hc1 Try.ntmps124 hc2 (Nat.le_of_ble_eq_true rfl) rfl ?_
  cases hl : ltE d[v]! d[u]! with
  | true =>
    repeat' (first | refine S.nilK ?_ | (refine S.op rfl ?_; first | refine S.addNN (n := 1) rfl rfl (by omega) ?_ | refine S.ix rfl rfl (by omega) ?_ | refine S.ldG (by decide) rfl hb (by omega) ?_ | refine callS rfl rfl (less_is hl _) ?_ | refine R.mv rfl ?_ | refine R.nilCheck rfl ?_ | refine R.load (by decide) rfl (by (repeat' (first | assumption)); first | done | fail) rfl ?_) | (refine S.op0 rfl ?_; first | refine S.store rfl rfl (by (repeat' (first | assumption)); first | done | fail) rfl rfl rfl (by rfl) rfl ?_) | refine S.seq ?_ | refine S.region ?_ | refine S.condT rfl ?_)
    apply S.ret rr124
    case hx => repeat (first | exact ResAt.nil | apply ResAt.tmp rfl)
    exact ⟨v, u, kk + 1, rfl, rfl, by omega, .inr ⟨rfl, rfl⟩⟩
  | false =>
    repeat' (first | refine S.nilK ?_ | (refine S.op rfl ?_; first | refine S.ix rfl rfl (by omega) ?_ | refine S.ldG (by decide) rfl hb (by omega) ?_ | refine callS rfl rfl (less_is hl _) ?_ | refine R.mv rfl ?_) | refine S.seq ?_ | refine S.region ?_ | refine S.condF rfl ?_ | refine RRun.skip ?_)
    apply S.ret rr124
    case hx => repeat (first | exact ResAt.nil | apply ResAt.tmp rfl)
    exact ⟨u, v, kk, rfl, (AHeap.set_eq H hp).symm, by omega, .inl ⟨rfl, rfl⟩⟩
def r122 : RCode :=
  (.seq (.region [
    ⟨(some 10), none, .act, .mv (.const (.int .i64 0))⟩])
  (.seq (.region [
    ⟨(some 12), none, .act, .mv (.tmp 0)⟩,
    ⟨(some 13), none, .act, .mv (.tmp 1)⟩,
    ⟨(some 14), none, .act, .mv (.tmp 2)⟩,
    ⟨(some 15), none, .act, .mv (.tmp 4)⟩,
    ⟨(some 16), none, .act, .call 124 [(.tmp 12), (.tmp 13), (.tmp 14), (.tmp 15)]⟩,
    ⟨(some 11), none, .act, .mv (.tmp 16)⟩,
    ⟨(some 17), none, .act, .extract (.tmp 11) 0⟩,
    ⟨(some 18), none, .act, .extract (.tmp 11) 1⟩,
    ⟨(some 1), none, .act, .mv (.tmp 17)⟩,
    ⟨(some 2), none, .act, .mv (.tmp 18)⟩])
  (.seq (.region [
    ⟨(some 20), none, .act, .mv (.tmp 0)⟩,
    ⟨(some 21), none, .act, .mv (.tmp 2)⟩,
    ⟨(some 22), none, .act, .mv (.tmp 3)⟩,
    ⟨(some 23), none, .act, .mv (.tmp 4)⟩,
    ⟨(some 24), none, .act, .call 124 [(.tmp 20), (.tmp 21), (.tmp 22), (.tmp 23)]⟩,
    ⟨(some 19), none, .act, .mv (.tmp 24)⟩,
    ⟨(some 25), none, .act, .extract (.tmp 19) 0⟩,
    ⟨(some 26), none, .act, .extract (.tmp 19) 1⟩,
    ⟨(some 2), none, .act, .mv (.tmp 25)⟩,
    ⟨(some 3), none, .act, .mv (.tmp 26)⟩])
  (.seq (.region [
    ⟨(some 28), none, .act, .mv (.tmp 0)⟩,
    ⟨(some 29), none, .act, .mv (.tmp 1)⟩,
    ⟨(some 30), none, .act, .mv (.tmp 2)⟩,
    ⟨(some 31), none, .act, .mv (.tmp 4)⟩,
    ⟨(some 32), none, .act, .call 124 [(.tmp 28), (.tmp 29), (.tmp 30), (.tmp 31)]⟩,
    ⟨(some 27), none, .act, .mv (.tmp 32)⟩,
    ⟨(some 33), none, .act, .extract (.tmp 27) 0⟩,
    ⟨(some 34), none, .act, .extract (.tmp 27) 1⟩,
    ⟨(some 1), none, .act, .mv (.tmp 33)⟩,
    ⟨(some 2), none, .act, .mv (.tmp 34)⟩])
  (.seq (.region [
    ⟨(some 35), none, .act, .mv (.tmp 2)⟩,
    ⟨(some 10), none, .act, .mv (.tmp 35)⟩])
  .ret)))))
theorem res122 : ∃ c, Try.f122.body = some c ∧ resCode Try.prog 36 c = some r122 := ⟨_, rfl, by kernel_rfl⟩
theorem rr122 : resRes Try.prog Try.f122.results.toList = some [.tmp 10] := by kernel_rfl
theorem median_spec (b cap n u v w p : Nat) (sp : List AV) (hn : n ≤ 1000000) (hu : u < n) (hv : v < n) (hw : w < n) (d : Array SE) (hd : d.size = n) (H : AHeap) (hpb : p ≠ b) (hb : H b = some (.box (d.toList.map enc ++ sp))) (kk : Nat) (hk : kk ≤ 50) (hp : H p = some (.box [i64 kk])) :
    ACalls Try.prog 122 [slAt b 0 n cap, i64 u, i64 v, i64 w, ptr p] H (fun x h' => ∃ (r kk' : Nat), x = i64 r ∧ h' = H.set p (.box [i64 kk']) ∧ kk' ≤ kk + 3 ∧ (r = u ∨ r = v ∨ r = w)) := by
  obtain ⟨c, hc1, hc2⟩ := res122
  refine ACalls.enter Try.func122 hc1 Try.ntmps122 hc2 (Nat.le_of_ble_eq_true rfl) rfl ?_
  have hbp : ∀ kk, (H.set p (.box [i64 kk])) b = some (.box (d.toList.map enc ++ sp)) := fun kk => (AHeap.set_other _ _ (Ne.symm hpb)).trans hb
  repeat' (first | refine S.nilK ?_ | (refine S.op rfl ?_; first | refine R.mv rfl ?_) | refine S.seq ?_ | refine S.region ?_)
  refine S.op rfl (R.call rfl rfl ((order2_spec b cap n u v p sp hn hu hv d hd H hb kk (by omega) hp).mono ?_))
  rintro x1 h1 ⟨u1, v1, k1, rfl, rfl, e1, f1⟩
  repeat' (first | refine S.nilK ?_ | (refine S.op rfl ?_; first | refine R.mv rfl ?_ | refine R.extract rfl rfl ?_) | refine S.seq ?_ | refine S.region ?_)
  refine S.op rfl (R.call rfl rfl ((order2_spec b cap n v1 w p sp hn (by omega) hw d hd _ (hbp _) k1 (by omega) (AHeap.set_same _ _ _)).mono ?_))
  rintro x2 h2 ⟨u2, v2, k2, rfl, rfl, e2, f2⟩
  rw [AHeap.set_set]
  repeat' (first | refine S.nilK ?_ | (refine S.op rfl ?_; first | refine R.mv rfl ?_ | refine R.extract rfl rfl ?_) | refine S.seq ?_ | refine S.region ?_)
  refine S.op rfl (R.call rfl rfl ((order2_spec b cap n u1 u2 p sp hn (by omega) (by omega) d hd _ (hbp _) k2 (by omega) (AHeap.set_same _ _ _)).mono ?_))
  rintro x3 h3 ⟨u3, v3, k3, rfl, rfl, e3, f3⟩
  rw [AHeap.set_set]
  repeat' (first | refine S.nilK ?_ | (refine S.op rfl ?_; first | refine R.mv rfl ?_ | refine R.extract rfl rfl ?_) | refine S.seq ?_ | refine S.region ?_)
  apply S.ret rr122
  case hx => repeat (first | exact ResAt.nil | apply ResAt.tmp rfl)
  exact ⟨v3, k3, rfl, rfl, by omega, by omega⟩
def r110 : RCode :=
  (.seq (.region [
    ⟨(some 6), none, .act, .mv (.const (.int .i64 0))⟩,
    ⟨(some 7), none, .act, .mv (.const (.int .i64 0))⟩])
  (.seq (.region [
    ⟨(some 13), none, .act, .mv (.tmp 2)⟩,
    ⟨(some 14), none, .act, .mv (.tmp 1)⟩,
    ⟨(some 15), none, .act, .bin .sub (.tmp 13) (.tmp 14)⟩,
    ⟨(some 8), none, .act, .mv (.tmp 15)⟩])
  (.seq (.region [
    ⟨(some 9), none, .act, .alloc [(.int .i64 0)]⟩])
  (.seq (.region [
    ⟨(some 16), none, .act, .mv (.tmp 1)⟩,
    ⟨(some 17), none, .act, .mv (.tmp 8)⟩,
    ⟨(some 18), none, .act, .bin .quo (.tmp 17) (.const (.int .i64 4))⟩,
    ⟨(some 19), none, .act, .bin .mul (.tmp 18) (.const (.int .i64 1))⟩,
    ⟨(some 20), none, .act, .bin .add (.tmp 16) (.tmp 19)⟩,
    ⟨(some 10), none, .act, .mv (.tmp 20)⟩])
  (.seq (.region [
    ⟨(some 21), none, .act, .mv (.tmp 1)⟩,
    ⟨(some 22), none, .act, .mv (.tmp 8)⟩,
    ⟨(some 23), none, .act, .bin .quo (.tmp 22) (.const (.int .i64 4))⟩,
    ⟨(some 24), none, .act, .bin .mul (.tmp 23) (.const (.int .i64 2))⟩,
    ⟨(some 25), none, .act, .bin .add (.tmp 21) (.tmp 24)⟩,
    ⟨(some 11), none, .act, .mv (.tmp 25)⟩])
  (.seq (.region [
    ⟨(some 26), none, .act, .mv (.tmp 1)⟩,
    ⟨(some 27), none, .act, .mv (.tmp 8)⟩,
    ⟨(some 28), none, .act, .bin .quo (.tmp 27) (.const (.int .i64 4))⟩,
    ⟨(some 29), none, .act, .bin .mul (.tmp 28) (.const (.int .i64 3))⟩,
    ⟨(some 30), none, .act, .bin .add (.tmp 26) (.tmp 29)⟩,
    ⟨(some 12), none, .act, .mv (.tmp 30)⟩])
  (.seq (.seq (.region [
    ⟨(some 31), none, .act, .mv (.tmp 8)⟩,
    ⟨(some 32), none, .act, .bin .geq (.tmp 31) (.const (.int .i64 8))⟩])
  (.cond (.tmp 32)
   (.seq (.seq (.region [
     ⟨(some 33), none, .act, .mv (.tmp 8)⟩,
     ⟨(some 34), none, .act, .bin .geq (.tmp 33) (.const (.int .i64 50))⟩])
   (.cond (.tmp 34)
    (.seq (.region [
      ⟨(some 35), none, .act, .mv (.tmp 0)⟩,
      ⟨(some 36), none, .act, .mv (.tmp 10)⟩,
      ⟨(some 37), none, .act, .call 121 [(.tmp 35), (.tmp 36), (.tmp 9)]⟩,
      ⟨(some 10), none, .act, .mv (.tmp 37)⟩])
    (.seq (.region [
      ⟨(some 38), none, .act, .mv (.tmp 0)⟩,
      ⟨(some 39), none, .act, .mv (.tmp 11)⟩,
      ⟨(some 40), none, .act, .call 121 [(.tmp 38), (.tmp 39), (.tmp 9)]⟩,
      ⟨(some 11), none, .act, .mv (.tmp 40)⟩])
    (.region [
      ⟨(some 41), none, .act, .mv (.tmp 0)⟩,
      ⟨(some 42), none, .act, .mv (.tmp 12)⟩,
      ⟨(some 43), none, .act, .call 121 [(.tmp 41), (.tmp 42), (.tmp 9)]⟩,
      ⟨(some 12), none, .act, .mv (.tmp 43)⟩])))
    .skip))
   (.region [
     ⟨(some 44), none, .act, .mv (.tmp 0)⟩,
     ⟨(some 45), none, .act, .mv (.tmp 10)⟩,
     ⟨(some 46), none, .act, .mv (.tmp 11)⟩,
     ⟨(some 47), none, .act, .mv (.tmp 12)⟩,
     ⟨(some 48), none, .act, .call 122 [(.tmp 44), (.tmp 45), (.tmp 46), (.tmp 47), (.tmp 9)]⟩,
     ⟨(some 11), none, .act, .mv (.tmp 48)⟩]))
   .skip))
  (.seq (.region [
    ⟨(some 49), none, .act, .load false 1 (.tmp 9)⟩])
  (.block 0
   (.seq (.region [
     ⟨(some 52), none, .act, .eq false .int (.tmp 49) (.const (.int .i64 0))⟩,
     ⟨(some 51), none, .act, .mv (.tmp 52)⟩])
   (.cond (.tmp 51)
    (.seq (.region [
      ⟨(some 53), none, .act, .mv (.tmp 11)⟩,
      ⟨(some 6), none, .act, .mv (.tmp 53)⟩,
      ⟨(some 7), none, .act, .mv (.const (.int .i64 1))⟩])
    .ret)
    (.seq (.region [
      ⟨(some 55), none, .act, .eq false .int (.tmp 49) (.const (.int .i64 12))⟩,
      ⟨(some 54), none, .act, .mv (.tmp 55)⟩])
    (.cond (.tmp 54)
     (.seq (.region [
       ⟨(some 56), none, .act, .mv (.tmp 11)⟩,
       ⟨(some 6), none, .act, .mv (.tmp 56)⟩,
       ⟨(some 7), none, .act, .mv (.const (.int .i64 2))⟩])
     .ret)
     (.seq (.region [
       ⟨(some 50), none, .act, .mv (.tmp 11)⟩,
       ⟨(some 6), none, .act, .mv (.tmp 50)⟩,
       ⟨(some 7), none, .act, .mv (.const (.int .i64 0))⟩])
     .ret))))))))))))))
theorem res110 : ∃ c, Try.f110.body = some c ∧ resCode Try.prog 57 c = some r110 := ⟨_, rfl, by kernel_rfl⟩
theorem rr110 : resRes Try.prog Try.f110.results.toList = some [.tmp 6, .tmp 7] := by kernel_rfl
theorem choosePivot_spec (q cap n a e : Nat) (sp : List AV) (h : AHeap) (hn : n ≤ 1000000) (he : e ≤ n) (ha : a < e) (h50 : e - a < 50) (d : Array SE) (hd : d.size = n) :
    ACalls Try.prog 110 [slAt q 0 n cap, i64 a, i64 e] (HL h q d.toList sp) (fun x h' => (∃ (r t : Nat), x = .tu [i64 r, i64 t] ∧ a ≤ r ∧ r < e ∧ t ≤ 2) ∧ h' = HL h q d.toList sp) := by
  obtain ⟨c, hc1, hc2⟩ := res110
  refine ACalls.weak (ACalls.enter Try.func110 hc1 Try.ntmps110 hc2 (Nat.le_of_ble_eq_true rfl) rfl ?_)
  have hrow := HL_at h q d.toList sp
  generalize HL h q d.toList sp = H at hrow ⊢
  have q1 : (e - a) / 4 * 1 < e - a := by omega
  have q2 : (e - a) / 4 * 2 < e - a := by omega
  have q3 : (e - a) / 4 * 3 < e - a := by omega
  by_cases h8 : 8 ≤ e - a
  ·
    repeat' (first | refine S.nilK ?_ | (refine S.op rfl ?_; first | refine S.addNN rfl rfl (by omega) ?_ | refine S.subNN rfl rfl (by omega) (by omega) ?_ | refine S.quoNN (n := 4) rfl rfl (by decide) (by omega) ?_ | refine S.mulNN (n := 1) rfl rfl (by omega) ?_ | refine S.mulNN (n := 2) rfl rfl (by omega) ?_ | refine S.mulNN (n := 3) rfl rfl (by omega) ?_ | refine R.mv rfl ?_ | refine R.alloc rfl (fun b hb => ?_) | ((first | refine S.geq rfl rfl ?_ ?_) <;> intro hlt <;> try (exfalso; omega))) | refine S.seq ?_ | refine S.region ?_ | refine S.condT rfl ?_ | refine S.condF rfl ?_ | refine RRun.skip ?_)
    have hpb : b ≠ q := Ne.symm (AHeap.ne_of hb hrow)
    refine S.op rfl (R.call rfl rfl ((median_spec q cap n _ _ _ b sp hn (by omega) (by omega) (by omega) d hd _ hpb ((AHeap.set_other _ _ (Ne.symm hpb)).trans hrow) 0 (by omega) (AHeap.set_same _ _ _)).mono ?_))
    rintro x1 h1 ⟨r, kk, rfl, rfl, e1, f1⟩
    rw [AHeap.set_set]
    repeat' (first | refine S.nilK ?_ | (refine S.op rfl ?_; first | refine R.mv rfl ?_ | refine R.load (by decide) rfl (by (repeat' (first | exact AHeap.set_same _ _ _)); first | done | fail) rfl ?_ | ((first | refine S.eqInt rfl rfl ?_ ?_) <;> intro hlt <;> try (exfalso; omega))) | refine S.seq ?_ | refine S.region ?_ | refine S.condT rfl ?_ | refine S.condF rfl ?_ | refine RRun.block ?_)
    · apply S.ret rr110
      case hx => repeat (first | exact ResAt.nil | apply ResAt.tmp rfl)
      exact ⟨_, _, .refl _, (AHeap.le.refl _).set _ hb, ⟨r, 1, rfl, by omega, by omega, by omega⟩, rfl⟩
    · apply S.ret rr110
      case hx => repeat (first | exact ResAt.nil | apply ResAt.tmp rfl)
      exact ⟨_, _, .refl _, (AHeap.le.refl _).set _ hb, ⟨r, 0, rfl, by omega, by omega, by omega⟩, rfl⟩
  ·
    repeat' (first | refine S.nilK ?_ | (refine S.op rfl ?_; first | refine S.addNN rfl rfl (by omega) ?_ | refine S.subNN rfl rfl (by omega) (by omega) ?_ | refine S.quoNN (n := 4) rfl rfl (by decide) (by omega) ?_ | refine S.mulNN (n := 1) rfl rfl (by omega) ?_ | refine S.mulNN (n := 2) rfl rfl (by omega) ?_ | refine S.mulNN (n := 3) rfl rfl (by omega) ?_ | refine R.mv rfl ?_ | refine R.load (by decide) rfl (by (repeat' (first | exact AHeap.set_same _ _ _)); first | done | fail) rfl ?_ | refine R.alloc rfl (fun b hb => ?_) | ((first | refine S.geq rfl rfl ?_ ?_ | refine S.eqInt rfl rfl ?_ ?_) <;> intro hlt <;> try (exfalso; omega))) | refine S.seq ?_ | refine S.region ?_ | refine S.condT rfl ?_ | refine S.condF rfl ?_ | refine RRun.skip ?_ | refine RRun.block ?_)
    apply S.ret rr110
    case hx => repeat (first | exact ResAt.nil | apply ResAt.tmp rfl)
    exact ⟨_, _, .refl _, (AHeap.le.refl _).set _ hb, ⟨a + (e - a) / 4 * 2, 1, rfl, by omega, by omega, by omega⟩, rfl⟩
end Go.Proofs.Ytnmgamcmjjngcaa

namespace Go.Proofs.Ytnmgamcmjjngcaa
open Go.Av
open Go.Sort (swp PermIn SortedIn Below SWO)
def lenTab : List UInt8 := [0, 1, 2, 2, 3, 3, 3, 3, 4, 4, 4, 4, 4, 4, 4, 4, 5, 5, 5, 5, 5, 5, 5, 5, 5, 5, 5, 5, 5, 5, 5, 5, 6, 6, 6, 6, 6, 6, 6, 6, 6, 6, 6, 6, 6, 6, 6, 6, 6, 6, 6, 6, 6, 6, 6, 6, 6, 6, 6, 6, 6, 6, 6, 6, 7, 7, 7, 7, 7, 7, 7, 7, 7, 7, 7, 7, 7, 7, 7, 7, 7, 7, 7, 7, 7, 7, 7, 7, 7, 7, 7, 7, 7, 7, 7, 7, 7, 7, 7, 7, 7, 7, 7, 7, 7, 7, 7, 7, 7, 7, 7, 7, 7, 7, 7, 7, 7, 7, 7, 7, 7, 7, 7, 7, 7, 7, 7, 7, 8, 8, 8, 8, 8, 8, 8, 8, 8, 8, 8, 8, 8, 8, 8, 8, 8, 8, 8, 8, 8, 8, 8, 8, 8, 8, 8, 8, 8, 8, 8, 8, 8, 8, 8, 8, 8, 8, 8, 8, 8, 8, 8, 8, 8, 8, 8, 8, 8, 8, 8, 8, 8, 8, 8, 8, 8, 8, 8, 8, 8, 8, 8, 8, 8, 8, 8, 8, 8, 8, 8, 8, 8, 8, 8, 8, 8, 8, 8, 8, 8, 8, 8, 8, 8, 8, 8, 8, 8, 8, 8, 8, 8, 8, 8, 8, 8, 8, 8, 8, 8, 8, 8, 8, 8, 8, 8, 8, 8, 8, 8, 8, 8, 8, 8, 8, 8, 8, 8, 8, 8, 8, 8, 8, 8, 8, 8, 8]
theorem lenTab_get : ∀ n, n < 50 → 8 ≤ n → (lenTab[n]? = some 4 ∧ n ≤ 15) ∨ (lenTab[n]? = some 5 ∧ 16 ≤ n ∧ n ≤ 31) ∨ (lenTab[n]? = some 6 ∧ 32 ≤ n) := by decide
theorem wrap_u8_small {n : Nat} (h : n < 256) : IntKind.u8.wrap (n : Int) = (n : Int) := wrap_u8N h
def r117 : RCode :=
  (.seq (.region [
    ⟨(some 2), none, .act, .mv (.const (.int .i64 0))⟩])
  (.seq (.seq (.region [
    ⟨(some 3), none, .act, .mv (.tmp 0)⟩,
    ⟨(some 4), none, .act, .bin .geq (.tmp 3) (.const (.int .u64 4294967296))⟩])
  (.cond (.tmp 4)
   (.seq (.region [
     ⟨(some 5), none, .act, .mv (.tmp 0)⟩,
     ⟨(some 6), none, .act, .bin .shr (.tmp 5) (.const (.int .u64 32))⟩,
     ⟨(some 0), none, .act, .mv (.tmp 6)⟩])
   (.region [
     ⟨(some 2), none, .act, .mv (.const (.int .i64 32))⟩]))
   .skip))
  (.seq (.seq (.region [
    ⟨(some 7), none, .act, .mv (.tmp 0)⟩,
    ⟨(some 8), none, .act, .bin .geq (.tmp 7) (.const (.int .u64 65536))⟩])
  (.cond (.tmp 8)
   (.seq (.region [
     ⟨(some 9), none, .act, .mv (.tmp 0)⟩,
     ⟨(some 10), none, .act, .bin .shr (.tmp 9) (.const (.int .u64 16))⟩,
     ⟨(some 0), none, .act, .mv (.tmp 10)⟩])
   (.region [
     ⟨(some 11), none, .act, .mv (.tmp 2)⟩,
     ⟨(some 12), none, .act, .bin .add (.tmp 11) (.const (.int .i64 16))⟩,
     ⟨(some 2), none, .act, .mv (.tmp 12)⟩]))
   .skip))
  (.seq (.seq (.region [
    ⟨(some 13), none, .act, .mv (.tmp 0)⟩,
    ⟨(some 14), none, .act, .bin .geq (.tmp 13) (.const (.int .u64 256))⟩])
  (.cond (.tmp 14)
   (.seq (.region [
     ⟨(some 15), none, .act, .mv (.tmp 0)⟩,
     ⟨(some 16), none, .act, .bin .shr (.tmp 15) (.const (.int .u64 8))⟩,
     ⟨(some 0), none, .act, .mv (.tmp 16)⟩])
   (.region [
     ⟨(some 17), none, .act, .mv (.tmp 2)⟩,
     ⟨(some 18), none, .act, .bin .add (.tmp 17) (.const (.int .i64 8))⟩,
     ⟨(some 2), none, .act, .mv (.tmp 18)⟩]))
   .skip))
  (.seq (.region [
    ⟨(some 19), none, .act, .mv (.tmp 2)⟩,
    ⟨(some 20), none, .act, .mv (.tmp 0)⟩,
    ⟨(some 21), none, .act, .convInt .u8 (.tmp 20)⟩,
    ⟨(some 22), none, .act, .indexStr (.const (.string ⟨#[0, 1, 2, 2, 3, 3, 3, 3, 4, 4, 4, 4, 4, 4, 4, 4, 5, 5, 5, 5, 5, 5, 5, 5, 5, 5, 5, 5, 5, 5, 5, 5, 6, 6, 6, 6, 6, 6, 6, 6, 6, 6, 6, 6, 6, 6, 6, 6, 6, 6, 6, 6, 6, 6, 6, 6, 6, 6, 6, 6, 6, 6, 6, 6, 7, 7, 7, 7, 7, 7, 7, 7, 7, 7, 7, 7, 7, 7, 7, 7, 7, 7, 7, 7, 7, 7, 7, 7, 7, 7, 7, 7, 7, 7, 7, 7, 7, 7, 7, 7, 7, 7, 7, 7, 7, 7, 7, 7, 7, 7, 7, 7, 7, 7, 7, 7, 7, 7, 7, 7, 7, 7, 7, 7, 7, 7, 7, 7, 8, 8, 8, 8, 8, 8, 8, 8, 8, 8, 8, 8, 8, 8, 8, 8, 8, 8, 8, 8, 8, 8, 8, 8, 8, 8, 8, 8, 8, 8, 8, 8, 8, 8, 8, 8, 8, 8, 8, 8, 8, 8, 8, 8, 8, 8, 8, 8, 8, 8, 8, 8, 8, 8, 8, 8, 8, 8, 8, 8, 8, 8, 8, 8, 8, 8, 8, 8, 8, 8, 8, 8, 8, 8, 8, 8, 8, 8, 8, 8, 8, 8, 8, 8, 8, 8, 8, 8, 8, 8, 8, 8, 8, 8, 8, 8, 8, 8, 8, 8, 8, 8, 8, 8, 8, 8, 8, 8, 8, 8, 8, 8, 8, 8, 8, 8, 8, 8, 8, 8, 8, 8, 8, 8, 8, 8, 8, 8]⟩)) (.tmp 21)⟩,
    ⟨(some 23), none, .act, .convInt .i64 (.tmp 22)⟩,
    ⟨(some 24), none, .act, .bin .add (.tmp 19) (.tmp 23)⟩,
    ⟨(some 2), none, .act, .mv (.tmp 24)⟩])
  .ret)))))
theorem res117 : ∃ c, Try.f117.body = some c ∧ resCode Try.prog 25 c = some r117 := ⟨_, rfl, by kernel_rfl⟩
theorem rr117 : resRes Try.prog Try.f117.results.toList = some [.tmp 2] := by kernel_rfl
theorem len64_spec (n t : Nat) (hn : n < 256) (tb : UInt8) (ht : lenTab[n]? = some tb) (htb : tb.toNat = t) (h : AHeap) : ACalls Try.prog 117 [.v (.int .u64 (n : Int))] h (fun x h' => x = i64 (t : Nat) ∧ h' = h) := by
  obtain ⟨c, hc1, hc2⟩ := res117
  refine ACalls.enter Try.func117 hc1 Try.ntmps117 hc2 (Nat.le_of_ble_eq_true rfl) rfl ?_
  have hw := wrap_u8_small hn
  have htl : tb.toNat < 256 := UInt8.toNat_lt tb
  repeat' (first | refine S.nilK ?_ | (refine S.op rfl ?_; first | refine R.mv rfl ?_ | refine R.convInt rfl ?_ | ((first | refine S.geq rfl rfl ?_ ?_) <;> intro hlt <;> try (exfalso; omega))) | refine S.seq ?_ | refine S.region ?_ | refine S.condF rfl ?_ | refine RRun.skip ?_)
  rw [hw]
  refine S.op rfl (S.indexS (l := lenTab) rfl rfl (by omega) (by simpa using ht) ?_)
  refine S.op rfl (R.convInt rfl ?_)
  rw [htb, wrap_i64 (by omega) (by omega)]
  repeat' (first | refine S.nilK ?_ | (refine S.op rfl ?_; first | refine S.addNN (m := 0) rfl rfl (by omega) ?_ | refine R.mv rfl ?_))
  apply S.ret rr117
  case hx => repeat (first | exact ResAt.nil | apply ResAt.tmp rfl)
  exact ⟨by rw [Nat.zero_add]; rfl, rfl⟩
def r104 : RCode :=
  (.seq (.region [
    ⟨(some 2), none, .act, .mv (.const (.int .i64 0))⟩])
  (.seq (.cond (.const (.bool false))
   (.seq (.region [
     ⟨(some 3), none, .act, .mv (.tmp 0)⟩,
     ⟨(some 4), none, .act, .convInt .u32 (.tmp 3)⟩,
     ⟨(some 5), none, .act, .call 116 [(.tmp 4)]⟩,
     ⟨(some 2), none, .act, .mv (.tmp 5)⟩])
   .ret)
   .skip)
  (.seq (.region [
    ⟨(some 6), none, .act, .mv (.tmp 0)⟩,
    ⟨(some 7), none, .act, .call 117 [(.tmp 6)]⟩,
    ⟨(some 2), none, .act, .mv (.tmp 7)⟩])
  .ret)))
theorem res104 : ∃ c, Try.f104.body = some c ∧ resCode Try.prog 8 c = some r104 := ⟨_, rfl, by kernel_rfl⟩
theorem rr104 : resRes Try.prog Try.f104.results.toList = some [.tmp 2] := by kernel_rfl
theorem len_spec (n t : Nat) (hn : n < 256) (tb : UInt8) (ht : lenTab[n]? = some tb) (htb : tb.toNat = t) (h : AHeap) : ACalls Try.prog 104 [.v (.int .u64 (n : Int))] h (fun x h' => x = i64 (t : Nat) ∧ h' = h) := by
  obtain ⟨c, hc1, hc2⟩ := res104
  refine ACalls.enter Try.func104 hc1 Try.ntmps104 hc2 (Nat.le_of_ble_eq_true rfl) rfl ?_
  repeat' (first | refine S.nilK ?_ | (refine S.op rfl ?_; first | refine callS rfl rfl (len64_spec n t hn tb ht htb _) ?_ | refine R.mv rfl ?_) | refine S.seq ?_ | refine S.region ?_ | refine S.condF rfl ?_ | refine RRun.skip ?_)
  apply S.ret rr104
  case hx => repeat (first | exact ResAt.nil | apply ResAt.tmp rfl)
  exact ⟨rfl, rfl⟩
def r119 : RCode :=
  (.seq (.region [
    ⟨(some 2), none, .act, .mv (.const (.int .u64 0))⟩])
  (.seq (.region [
    ⟨(some 3), none, .act, .mv (.tmp 0)⟩,
    ⟨(some 4), none, .act, .convInt .u64 (.tmp 3)⟩,
    ⟨(some 5), none, .act, .call 104 [(.tmp 4)]⟩,
    ⟨(some 6), none, .act, .bin .shl (.const (.int .u64 1)) (.tmp 5)⟩,
    ⟨(some 2), none, .act, .mv (.tmp 6)⟩])
  .ret))
theorem res119 : ∃ c, Try.f119.body = some c ∧ resCode Try.prog 7 c = some r119 := ⟨_, rfl, by kernel_rfl⟩
theorem rr119 : resRes Try.prog Try.f119.results.toList = some [.tmp 2] := by kernel_rfl
theorem next2_of (n t : Nat) (hn : n < 256) (ht6 : t ≤ 6) (tb : UInt8) (ht : lenTab[n]? = some tb) (htb : tb.toNat = t) (h : AHeap) : ACalls Try.prog 119 [i64 n] h (fun x h' => x = .v (.int .u64 ((2 ^ t : Nat) : Int)) ∧ h' = h) := by
  obtain ⟨c, hc1, hc2⟩ := res119
  refine ACalls.enter Try.func119 hc1 Try.ntmps119 hc2 (Nat.le_of_ble_eq_true rfl) rfl ?_
  repeat' (first | refine S.nilK ?_ | (refine S.op rfl ?_; first | refine S.convU (by omega) rfl ?_ | refine callS rfl rfl (len_spec n t hn tb ht htb _) ?_ | refine R.mv rfl ?_) | refine S.seq ?_ | refine S.region ?_)
  refine S.op rfl (R.shl rfl rfl (by omega) ?_)
  have hm : IntKind.u64.wrap ((1 : Int) * 2 ^ (min ((t : Nat) : Int).toNat IntKind.u64.bits)) = ((2 ^ t : Nat) : Int) := by
    obtain rfl | rfl | rfl | rfl | rfl | rfl | rfl : t = 0 ∨ t = 1 ∨ t = 2 ∨ t = 3 ∨ t = 4 ∨ t = 5 ∨ t = 6 := by omega
    all_goals decide
  rw [hm]
  repeat' (first | refine S.nilK ?_ | (refine S.op rfl ?_; first | refine R.mv rfl ?_))
  apply S.ret rr119
  case hx => repeat (first | exact ResAt.nil | apply ResAt.tmp rfl)
  exact ⟨rfl, rfl⟩
theorem next2_spec (n : Nat) (h8 : 8 ≤ n) (hn : n < 50) (h : AHeap) : ACalls Try.prog 119 [i64 n] h (fun x h' => (∃ m : Nat, x = .v (.int .u64 (m : Int)) ∧ 1 ≤ m ∧ m ≤ 2 * n) ∧ h' = h) := by
  rcases lenTab_get n hn h8 with ⟨ht, hb⟩ | ⟨ht, hb, _⟩ | ⟨ht, hb⟩
  · exact (next2_of n 4 (by omega) (by omega) 4 ht rfl h).mono fun x h' ⟨e1, e2⟩ => ⟨⟨16, e1, by omega, by omega⟩, e2⟩
  · exact (next2_of n 5 (by omega) (by omega) 5 ht rfl h).mono fun x h' ⟨e1, e2⟩ => ⟨⟨32, e1, by omega, by omega⟩, e2⟩
  · exact (next2_of n 6 (by omega) (by omega) 6 ht rfl h).mono fun x h' ⟨e1, e2⟩ => ⟨⟨64, e1, by omega, by omega⟩, e2⟩
theorem wrap_u64_is (n : Int) : ∃ x : UInt64, IntKind.u64.wrap n = (x.toNat : Int) := by
  have h : ∃ m : Nat, IntKind.u64.wrap n = (m : Int) ∧ m < 18446744073709551616 := by
    simp only [IntKind.wrap, IntKind.bits, IntKind.signed]
    simp
    exact ⟨(n % 18446744073709551616).toNat, by omega, by omega⟩
  obtain ⟨m, h1, h2⟩ := h
  exact ⟨UInt64.ofNat m, by rw [h1]; simp; omega⟩
section
variable {P : Program} {c : Cls} {E : AEnv} {h : AHeap} {K : AV → AHeap → Prop}
theorem S.shlAny {x y : Operand} {a : UInt64} {j : IntKind} {s : Int} (hx : aev E x = some (Go.Av.u64 a)) (hy : aev E y = some (.v (.int j s))) (h0 : 0 ≤ s) (hk : ∀ z : UInt64, K (Go.Av.u64 z) h) : ROpS P c (.bin .shl x y) E h K := by
  refine R.shl hx hy h0 ?_
  obtain ⟨z, hz⟩ := wrap_u64_is ((a.toNat : Int) * 2 ^ (min s.toNat IntKind.u64.bits))
  rw [hz]; exact hk z
theorem S.xorAny {x y : Operand} {a b : UInt64} (hx : aev E x = some (Go.Av.u64 a)) (hy : aev E y = some (Go.Av.u64 b)) (hk : ∀ z : UInt64, K (Go.Av.u64 z) h) : ROpS P c (.bin .xor x y) E h K := by
  obtain ⟨z, hz⟩ := wrap_u64_is ((BitVec.ofInt IntKind.u64.bits (a.toNat : Int) ^^^ BitVec.ofInt IntKind.u64.bits (b.toNat : Int)).toNat : Int)
  refine S.arith hx hy rfl ?_
  have := hk z
  simp only [Go.Av.u64] at this
  rw [← hz] at this
  exact this
theorem S.shrAny {x y : Operand} {a : UInt64} {j : IntKind} {s : Nat} (hx : aev E x = some (Go.Av.u64 a)) (hy : aev E y = some (.v (.int j ((s : Nat) : Int)))) (hk : ∀ z : UInt64, K (Go.Av.u64 z) h) : ROpS P c (.bin .shr x y) E h K := by
  refine R.shr hx hy (by omega) ?_
  obtain ⟨m, hm, hm2⟩ : ∃ m : Nat, ((a.toNat : Int).fdiv (2 ^ (min ((s : Nat) : Int).toNat IntKind.u64.bits))) = (m : Int) ∧ m < 18446744073709551616 := by
    refine ⟨a.toNat / 2 ^ (min ((s : Nat) : Int).toNat IntKind.u64.bits), ?_, ?_⟩
    · rw [Int.fdiv_eq_ediv_of_nonneg _ (by exact_mod_cast Nat.zero_le _)]
      push_cast
      rfl
    · exact Nat.lt_of_le_of_lt (Nat.div_le_self _ _) (UInt64.toNat_lt a)
  rw [hm]
  have e : (m : Int) = ((UInt64.ofNat m).toNat : Int) := by simp; omega
  rw [e]; exact hk _
end
def r120 : RCode :=
  (.seq (.region [
    ⟨(some 2), none, .act, .mv (.const (.int .u64 0))⟩])
  (.seq (.region [
    ⟨(some 3), none, .pure, .mv (.tmp 0)⟩,
    ⟨(some 4), none, .pure, .nilCheck (.tmp 3)⟩,
    ⟨(some 5), none, .read, .load false 1 (.tmp 4)⟩,
    ⟨(some 6), none, .pure, .mv (.tmp 0)⟩,
    ⟨(some 7), none, .pure, .nilCheck (.tmp 6)⟩,
    ⟨(some 8), none, .read, .load false 1 (.tmp 7)⟩,
    ⟨(some 9), none, .pure, .bin .shl (.tmp 8) (.const (.int .u64 13))⟩,
    ⟨(some 10), none, .pure, .bin .xor (.tmp 5) (.tmp 9)⟩,
    ⟨(some 11), none, .pure, .nilCheck (.tmp 3)⟩,
    ⟨none, none, .act, .store 1 (.tmp 11) (.tmp 10)⟩])
  (.seq (.region [
    ⟨(some 12), none, .pure, .mv (.tmp 0)⟩,
    ⟨(some 13), none, .pure, .nilCheck (.tmp 12)⟩,
    ⟨(some 14), none, .read, .load false 1 (.tmp 13)⟩,
    ⟨(some 15), none, .pure, .mv (.tmp 0)⟩,
    ⟨(some 16), none, .pure, .nilCheck (.tmp 15)⟩,
    ⟨(some 17), none, .read, .load false 1 (.tmp 16)⟩,
    ⟨(some 18), none, .pure, .bin .shr (.tmp 17) (.const (.int .u64 7))⟩,
    ⟨(some 19), none, .pure, .bin .xor (.tmp 14) (.tmp 18)⟩,
    ⟨(some 20), none, .pure, .nilCheck (.tmp 12)⟩,
    ⟨none, none, .act, .store 1 (.tmp 20) (.tmp 19)⟩])
  (.seq (.region [
    ⟨(some 21), none, .pure, .mv (.tmp 0)⟩,
    ⟨(some 22), none, .pure, .nilCheck (.tmp 21)⟩,
    ⟨(some 23), none, .read, .load false 1 (.tmp 22)⟩,
    ⟨(some 24), none, .pure, .mv (.tmp 0)⟩,
    ⟨(some 25), none, .pure, .nilCheck (.tmp 24)⟩,
    ⟨(some 26), none, .read, .load false 1 (.tmp 25)⟩,
    ⟨(some 27), none, .pure, .bin .shl (.tmp 26) (.const (.int .u64 17))⟩,
    ⟨(some 28), none, .pure, .bin .xor (.tmp 23) (.tmp 27)⟩,
    ⟨(some 29), none, .pure, .nilCheck (.tmp 21)⟩,
    ⟨none, none, .act, .store 1 (.tmp 29) (.tmp 28)⟩])
  (.seq (.region [
    ⟨(some 30), none, .act, .mv (.tmp 0)⟩,
    ⟨(some 31), none, .act, .nilCheck (.tmp 30)⟩,
    ⟨(some 32), none, .act, .load false 1 (.tmp 31)⟩,
    ⟨(some 2), none, .act, .mv (.tmp 32)⟩])
  .ret)))))
theorem res120 : ∃ c, Try.f120.body = some c ∧ resCode Try.prog 33 c = some r120 := ⟨_, rfl, by kernel_rfl⟩
theorem rr120 : resRes Try.prog Try.f120.results.toList = some [.tmp 2] := by kernel_rfl
theorem xorNext_spec (p : Nat) (x : UInt64) (H : AHeap) (hp : H p = some (.box [Go.Av.u64 x])) : ACalls Try.prog 120 [ptr p] H (fun y h' => ∃ z : UInt64, y = Go.Av.u64 z ∧ h' = H.set p (.box [Go.Av.u64 z])) := by
  obtain ⟨c, hc1, hc2⟩ := res120
  refine ACalls.enter Try.func120 hc1 Try.ntmps120 hc2 (Nat.le_of_ble_eq_true rfl) rfl ?_
  repeat' (first | refine S.nilK ?_ | (refine S.op rfl ?_; first | refine S.shlAny rfl rfl (by decide) (fun z => ?_) | refine S.shrAny (s := 7) rfl rfl (fun z => ?_) | refine S.xorAny rfl rfl (fun z => ?_) | refine R.mv rfl ?_ | refine R.nilCheck rfl ?_ | refine R.load (by decide) rfl (by (repeat' (first | assumption | exact AHeap.set_same _ _ _)); first | done | fail) rfl ?_) | (refine S.op0 rfl ?_; first | refine S.storeS rfl rfl rfl (by rfl) rfl (by first | decide | exact Nat.le_refl _ | exact Nat.le_of_ble_eq_true rfl) ?_ | refine S.store rfl rfl (by (repeat' (first | assumption)); first | done | fail) rfl rfl rfl (by rfl) rfl ?_) | refine S.seq ?_ | refine S.region ?_)
  apply S.ret rr120
  case hx => repeat (first | exact ResAt.nil | apply ResAt.tmp rfl)
  exact ⟨_, rfl, rfl⟩
theorem and_le (a b : Nat) : ∃ m : Nat, m ≤ b ∧ IntKind.u64.wrap ((BitVec.ofInt IntKind.u64.bits ((a : Nat) : Int) &&& BitVec.ofInt IntKind.u64.bits ((b : Nat) : Int)).toNat : Int) = (m : Int) := by
  have hle : (BitVec.ofInt IntKind.u64.bits ((a : Nat) : Int) &&& BitVec.ofInt IntKind.u64.bits ((b : Nat) : Int)).toNat ≤ b := by
    rw [BitVec.toNat_and]
    refine Nat.le_trans Nat.and_le_right ?_
    rw [BitVec.ofInt_natCast, BitVec.toNat_ofNat]
    exact Nat.mod_le _ _
  have hlt := (BitVec.ofInt IntKind.u64.bits ((a : Nat) : Int) &&& BitVec.ofInt IntKind.u64.bits ((b : Nat) : Int)).isLt
  exact ⟨_, hle, wrap_u64N hlt⟩
def r109l0 : RCode :=
  (.seq (.seq (.region [
    ⟨(some 26), none, .act, .mv (.tmp 9)⟩,
    ⟨(some 27), none, .act, .mv (.tmp 1)⟩,
    ⟨(some 28), none, .act, .mv (.tmp 6)⟩,
    ⟨(some 29), none, .act, .bin .quo (.tmp 28) (.const (.int .i64 4))⟩,
    ⟨(some 30), none, .act, .bin .mul (.tmp 29) (.const (.int .i64 2))⟩,
    ⟨(some 31), none, .act, .bin .add (.tmp 27) (.tmp 30)⟩,
    ⟨(some 32), none, .act, .bin .add (.tmp 31) (.const (.int .i64 1))⟩,
    ⟨(some 33), none, .act, .bin .leq (.tmp 26) (.tmp 32)⟩])
  (.cond (.tmp 33)
   .skip
   (.exit 0)))
  (.seq (.block 1
   (.seq (.region [
     ⟨(some 36), none, .act, .call 120 [(.tmp 7)]⟩,
     ⟨(some 37), none, .act, .mv (.tmp 8)⟩,
     ⟨(some 38), none, .act, .bin .sub (.tmp 37) (.const (.int .u64 1))⟩,
     ⟨(some 39), none, .act, .bin .and (.tmp 36) (.tmp 38)⟩,
     ⟨(some 40), none, .act, .convInt .i64 (.tmp 39)⟩,
     ⟨(some 10), none, .act, .mv (.tmp 40)⟩])
   (.seq (.seq (.region [
     ⟨(some 41), none, .act, .mv (.tmp 10)⟩,
     ⟨(some 42), none, .act, .mv (.tmp 6)⟩,
     ⟨(some 43), none, .act, .bin .geq (.tmp 41) (.tmp 42)⟩])
   (.cond (.tmp 43)
    (.region [
      ⟨(some 44), none, .act, .mv (.tmp 10)⟩,
      ⟨(some 45), none, .act, .mv (.tmp 6)⟩,
      ⟨(some 46), none, .act, .bin .sub (.tmp 44) (.tmp 45)⟩,
      ⟨(some 10), none, .act, .mv (.tmp 46)⟩])
    .skip))
   (.region [
     ⟨(some 47), none, .pure, .mv (.tmp 0)⟩,
     ⟨(some 48), none, .pure, .mv (.tmp 9)⟩,
     ⟨(some 49), none, .pure, .mv (.tmp 0)⟩,
     ⟨(some 50), none, .pure, .mv (.tmp 1)⟩,
     ⟨(some 51), none, .pure, .mv (.tmp 10)⟩,
     ⟨(some 52), none, .pure, .bin .add (.tmp 50) (.tmp 51)⟩,
     ⟨(some 53), none, .pure, .mv (.tmp 0)⟩,
     ⟨(some 54), none, .pure, .mv (.tmp 1)⟩,
     ⟨(some 55), none, .pure, .mv (.tmp 10)⟩,
     ⟨(some 56), none, .pure, .bin .add (.tmp 54) (.tmp 55)⟩,
     ⟨(some 57), none, .pure, .indexAddr 1 (.tmp 53) (.tmp 56)⟩,
     ⟨(some 58), none, .read, .load false 1 (.tmp 57)⟩,
     ⟨(some 59), none, .pure, .mv (.tmp 0)⟩,
     ⟨(some 60), none, .pure, .mv (.tmp 9)⟩,
     ⟨(some 61), none, .pure, .indexAddr 1 (.tmp 59) (.tmp 60)⟩,
     ⟨(some 62), none, .read, .load false 1 (.tmp 61)⟩,
     ⟨(some 63), none, .pure, .indexAddr 1 (.tmp 47) (.tmp 48)⟩,
     ⟨none, none, .act, .store 1 (.tmp 63) (.tmp 58)⟩,
     ⟨(some 64), none, .pure, .indexAddr 1 (.tmp 49) (.tmp 52)⟩,
     ⟨none, none, .act, .store 1 (.tmp 64) (.tmp 62)⟩]))))
  (.region [
    ⟨(some 34), none, .act, .mv (.tmp 9)⟩,
    ⟨(some 35), none, .act, .bin .add (.tmp 34) (.const (.int .i64 1))⟩,
    ⟨(some 9), none, .act, .mv (.tmp 35)⟩])))
def r109 : RCode :=
  (.seq (.region [
    ⟨(some 11), none, .act, .mv (.tmp 2)⟩,
    ⟨(some 12), none, .act, .mv (.tmp 1)⟩,
    ⟨(some 13), none, .act, .bin .sub (.tmp 11) (.tmp 12)⟩,
    ⟨(some 6), none, .act, .mv (.tmp 13)⟩])
  (.seq (.region [
    ⟨(some 14), none, .act, .mv (.tmp 6)⟩,
    ⟨(some 15), none, .act, .bin .geq (.tmp 14) (.const (.int .i64 8))⟩])
  (.cond (.tmp 15)
   (.seq (.region [
     ⟨(some 16), none, .act, .mv (.tmp 6)⟩,
     ⟨(some 17), none, .act, .convInt .u64 (.tmp 16)⟩,
     ⟨(some 7), none, .act, .alloc [(.int .u64 0)]⟩,
     ⟨none, none, .act, .store 1 (.tmp 7) (.tmp 17)⟩])
   (.seq (.region [
     ⟨(some 18), none, .act, .mv (.tmp 6)⟩,
     ⟨(some 19), none, .act, .call 119 [(.tmp 18)]⟩,
     ⟨(some 8), none, .act, .mv (.tmp 19)⟩])
   (.seq (.region [
     ⟨(some 20), none, .act, .mv (.tmp 1)⟩,
     ⟨(some 21), none, .act, .mv (.tmp 6)⟩,
     ⟨(some 22), none, .act, .bin .quo (.tmp 21) (.const (.int .i64 4))⟩,
     ⟨(some 23), none, .act, .bin .mul (.tmp 22) (.const (.int .i64 2))⟩,
     ⟨(some 24), none, .act, .bin .add (.tmp 20) (.tmp 23)⟩,
     ⟨(some 25), none, .act, .bin .sub (.tmp 24) (.const (.int .i64 1))⟩,
     ⟨(some 9), none, .act, .mv (.tmp 25)⟩])
   (.block 0
    (.loop r109l0)))))
   .skip)))
theorem res109 : ∃ c, Try.f109.body = some c ∧ resCode Try.prog 65 c = some r109 := ⟨_, rfl, by kernel_rfl⟩
theorem rr109 : resRes Try.prog Try.f109.results.toList = some [] := by kernel_rfl
theorem HL_comm (h : AHeap) (p q : Nat) (o o' : ABlk) (l : List SE) (sp : List AV) (hpq : p ≠ q) : (HL (h.set p o) q l sp).set p o' = HL (h.set p o') q l sp := by
  funext x
  simp only [HL, AHeap.set]
  by_cases h1 : x = p
  · subst h1; simp [hpq]
  · by_cases h2 : x = q
    · subst h2; simp [h1]
    · simp [h1, h2]
theorem HL_off (h : AHeap) (p q : Nat) (o : ABlk) (l : List SE) (sp : List AV) (hpq : p ≠ q) : (HL (h.set p o) q l sp) p = some o := by
  simp [HL, AHeap.set, hpq]
theorem break_round (q cap n a len modu idx p : Nat) (sp : List AV) (h : AHeap) (hn : n ≤ 1000000) (hal : a + len ≤ n) (h8 : 8 ≤ len) (hm1 : 1 ≤ modu) (hm2 : modu ≤ 2 * len) (hi1 : a ≤ idx) (hi2 : idx < a + len) (hi3 : idx ≤ a + len / 4 * 2 + 1) (hpq : p ≠ q) (d : Array SE) (hd : d.size = n) (x : UInt64) (k : List RT) (Q : AV → AHeap → Prop)
    (hk : ∀ (z : UInt64) (d' : Array SE), d'.size = n → PermIn a (a + len) d d' → RRun Try.prog Try.f109 65 (.inLoop r109l0 :: .inBlock 0 :: k) (Env.get [(0, slAt q 0 n cap), (1, i64 a), (6, i64 len), (7, ptr p), (8, .v (.int .u64 (modu : Int))), (9, i64 (idx + 1 : Nat))]) (HL (h.set p (.box [Go.Av.u64 z])) q d'.toList sp) Q) :
    RRun Try.prog Try.f109 65 (.inLoop r109l0 :: .inBlock 0 :: k) (Env.get [(0, slAt q 0 n cap), (1, i64 a), (6, i64 len), (7, ptr p), (8, .v (.int .u64 (modu : Int))), (9, i64 idx)]) (HL (h.set p (.box [Go.Av.u64 x])) q d.toList sp) Q := by
  have q2 : len / 4 * 2 < len := by omega
  refine RRun.inLoop ?_
  repeat' (first | refine S.nilK ?_ | (refine S.op rfl ?_; first | refine S.addNN (n := 1) rfl rfl (by omega) ?_ | refine S.addNN rfl rfl (by omega) ?_ | refine S.quoNN (n := 4) rfl rfl (by decide) (by omega) ?_ | refine S.mulNN (n := 2) rfl rfl (by omega) ?_ | refine R.mv rfl ?_ | ((first | refine S.leq rfl rfl ?_ ?_) <;> intro hlt <;> try (exfalso; omega))) | refine S.seq ?_ | refine S.region ?_ | refine S.condT rfl ?_ | refine RRun.skip ?_ | refine RRun.block ?_)
  refine S.op rfl (R.call rfl rfl ((xorNext_spec p x _ (HL_off _ _ _ _ _ _ hpq)).mono ?_))
  rintro y h' ⟨z, rfl, rfl⟩
  rw [HL_comm _ _ _ _ _ _ _ hpq]
  obtain ⟨m, hml, hmw⟩ := and_le z.toNat (modu - 1)
  have hsub : IntKind.u64.wrap ((modu : Int) - 1) = ((modu - 1 : Nat) : Int) := by
    rw [show ((modu : Int) - 1) = ((modu - 1 : Nat) : Int) by omega, wrap_u64N (by omega)]
  refine S.op rfl (R.mv rfl ?_)
  refine S.op rfl (S.arith rfl rfl rfl ?_)
  rw [hsub]
  refine S.op rfl (S.arith rfl rfl rfl ?_)
  rw [hmw]
  refine S.op rfl (R.convInt rfl ?_)
  rw [wrap_i64 (by omega) (by omega)]
  have hsw : ∀ j, a ≤ j → j < a + len → PermIn a (a + len) d (swp d idx j) := fun j h1 h2 => Go.Sort.swp_permIn d a (a + len) idx j hi1 hi2 h1 h2 (by omega)
  repeat' (first | (refine S.op0 rfl (S.stE rfl rfl rfl (by simp only [List.length_set, Array.length_toList]; omega) ?_)) | refine S.nilK ?_ | (refine S.op rfl ?_; first | refine S.addNN (n := 1) rfl rfl (by omega) ?_ | refine S.addNN rfl rfl (by omega) ?_ | refine S.subNN rfl rfl (by omega) (by omega) ?_ | refine S.ix rfl rfl (by omega) ?_ | refine S.ldE (by decide) rfl (by omega) ?_ | refine R.mv rfl ?_ | ((first | refine S.geq rfl rfl ?_ ?_) <;> intro hlt <;> try (exfalso; omega))) | refine S.seq ?_ | refine S.region ?_ | refine S.condT rfl ?_ | refine S.condF rfl ?_ | refine RRun.skip ?_ | refine RRun.inBlock ?_)
  · rw [swp_list]
    exact S.keep [0, 1, 6, 7, 8, 9] rfl (hk z _ (by rw [swp_size]; exact hd) (hsw _ (by omega) (by omega)))
  · rw [swp_list]
    exact S.keep [0, 1, 6, 7, 8, 9] rfl (hk z _ (by rw [swp_size]; exact hd) (hsw _ (by omega) (by omega)))
theorem HL_out (h : AHeap) (p q : Nat) (o : ABlk) (l : List SE) (sp : List AV) (hpq : p ≠ q) (hp : h p = none) : (HL h q l sp).set p o = HL (h.set p o) q l sp ∧ (HL h q l sp).le (HL (h.set p o) q l sp) := by
  have e : (HL h q l sp).set p o = HL (h.set p o) q l sp := by
    funext x
    simp only [HL, AHeap.set]
    by_cases h1 : x = p
    · subst h1; simp [hpq]
    · by_cases h2 : x = q
      · subst h2; simp [h1]
      · simp [h1, h2]
  refine ⟨e, ?_⟩
  rw [← e]
  exact (AHeap.le.refl _).set _ (by simp [HL, AHeap.set, hpq, hp])
theorem breakPatterns_spec (q cap n a e : Nat) (sp : List AV) (h : AHeap) (hn : n ≤ 1000000) (he : e ≤ n) (ha : a ≤ e) (h50 : e - a < 50) (d : Array SE) (hd : d.size = n) :
    ACalls Try.prog 109 [slAt q 0 n cap, i64 a, i64 e] (HL h q d.toList sp) (fun _ h' => ∃ d' : Array SE, d'.size = n ∧ PermIn a e d d' ∧ h' = HL h q d'.toList sp) := by
  obtain ⟨c, hc1, hc2⟩ := res109
  refine ACalls.weak (ACalls.enter Try.func109 hc1 Try.ntmps109 hc2 (Nat.le_of_ble_eq_true rfl) rfl ?_)
  by_cases h8 : 8 ≤ e - a
  · have q2 : (e - a) / 4 * 2 < e - a := by omega
    have q4 : 4 ≤ (e - a) / 4 * 2 := by omega
    have q5 : (e - a) / 4 * 2 + 1 < e - a := by omega
    repeat' (first | refine S.nilK ?_ | (refine S.op rfl ?_; first | refine S.subNN rfl rfl (by omega) (by omega) ?_ | refine S.convU (by omega) rfl ?_ | refine R.mv rfl ?_ | refine R.alloc rfl (fun b hb => ?_) | ((first | refine S.geq rfl rfl ?_ ?_) <;> intro hlt <;> try (exfalso; omega))) | (refine S.op0 rfl ?_; first | refine S.storeS rfl rfl rfl (by rfl) rfl (by first | decide | exact Nat.le_refl _ | exact Nat.le_of_ble_eq_true rfl) ?_) | refine S.seq ?_ | refine S.region ?_ | refine S.condT rfl ?_)
    have hpq : b ≠ q := Ne.symm (AHeap.ne_of hb (HL_at h q d.toList sp))
    have hp0 : h b = none := by
      have := hb
      simp only [HL, AHeap.set, hpq, if_false] at this
      exact this
    have hu : AV.v (.int .u64 ((e - a : Nat) : Int)) = Go.Av.u64 (UInt64.ofNat (e - a)) := by
      simp only [Go.Av.u64]
      have : (UInt64.ofNat (e - a)).toNat = e - a := by simp; omega
      rw [this]
    have hov : over [AV.v (.int .u64 0)] 0 [AV.v (.int .u64 ((e - a : Nat) : Int))] = [Go.Av.u64 (UInt64.ofNat (e - a))] := by rw [← hu]; rfl
    refine S.op rfl (R.call rfl rfl ((next2_spec (e - a) h8 h50 _).mono ?_))
    rintro y h' ⟨⟨modu, rfl, hm1, hm2⟩, rfl⟩
    repeat' (first | refine S.nilK ?_ | (refine S.op rfl ?_; first | refine S.addNN rfl rfl (by omega) ?_ | refine S.subNN (n := 1) rfl rfl (by omega) (by omega) ?_ | refine S.quoNN (n := 4) rfl rfl (by decide) (by omega) ?_ | refine S.mulNN (n := 2) rfl rfl (by omega) ?_ | refine R.mv rfl ?_) | refine S.seq ?_ | refine S.region ?_ | refine RRun.block ?_)
    have hae : a + (e - a) = e := by omega
    refine (show RRunG _ _ _ _ _ ((HL h q d.toList sp).set b (.box (over [AV.v (.int .u64 0)] 0 [AV.v (.int .u64 ((e - a : Nat) : Int))]))) _ from ?_)
    rw [hov, (HL_out h b q _ d.toList sp hpq hp0).1]
    refine RRun.loopIn (S.keep [0, 1, 6, 7, 8, 9] rfl (break_round q cap n a (e - a) modu (a + (e - a) / 4 * 2 - 1) b sp h hn (by omega) h8 hm1 hm2 (by omega) (by omega) (by omega) hpq d hd _ _ _ (fun z1 d1 hd1 p1 => ?_)))
    refine break_round q cap n a (e - a) modu (a + (e - a) / 4 * 2 - 1 + 1) b sp h hn (by omega) h8 hm1 hm2 (by omega) (by omega) (by omega) hpq d1 hd1 _ _ _ (fun z2 d2 hd2 p2 => ?_)
    refine break_round q cap n a (e - a) modu (a + (e - a) / 4 * 2 - 1 + 1 + 1) b sp h hn (by omega) h8 hm1 hm2 (by omega) (by omega) (by omega) hpq d2 hd2 _ _ _ (fun z3 d3 hd3 p3 => ?_)
    refine RRun.inLoop ?_
    repeat' (first | refine S.nilK ?_ | (refine S.op rfl ?_; first | refine S.addNN (n := 1) rfl rfl (by omega) ?_ | refine S.addNN rfl rfl (by omega) ?_ | refine S.quoNN (n := 4) rfl rfl (by decide) (by omega) ?_ | refine S.mulNN (n := 2) rfl rfl (by omega) ?_ | refine R.mv rfl ?_ | ((first | refine S.leq rfl rfl ?_ ?_) <;> intro hlt <;> try (exfalso; omega))) | refine S.seq ?_ | refine S.region ?_ | refine S.condF rfl ?_ | refine RRun.exit rfl ?_)
    apply S.done rr109
    case hx => repeat (first | exact ResAt.nil)
    rw [hae] at p1 p2 p3
    exact ⟨_, _, .refl _, (HL_out h b q _ d3.toList sp hpq hp0).2, d3, hd3, Go.Sort.permIn_trans _ _ _ _ _ p1 (Go.Sort.permIn_trans _ _ _ _ _ p2 p3), rfl⟩
  ·
    repeat' (first | refine S.nilK ?_ | (refine S.op rfl ?_; first | refine S.subNN rfl rfl (by omega) (by omega) ?_ | refine R.mv rfl ?_ | ((first | refine S.geq rfl rfl ?_ ?_) <;> intro hlt <;> try (exfalso; omega))) | refine S.seq ?_ | refine S.region ?_ | refine S.condF rfl ?_ | refine RRun.skip ?_)
    apply S.done rr109
    case hx => repeat (first | exact ResAt.nil)
    exact ⟨_, _, .refl _, .refl _, d, hd, Go.Sort.permIn_refl d a e, rfl⟩
end Go.Proofs.Ytnmgamcmjjngcaa

namespace Go.Proofs.Ytnmgamcmjjngcaa
open Go.Av
open Go.Sort (swp PermIn SortedIn Below SWO scanUp scanDown)
theorem scanUp_stop {p : SE → Bool} {d : Array SE} {j i : Nat} (h : ¬ (i ≤ j ∧ p d[i]! = true)) : scanUp p d j i = i := by
  unfold scanUp
  rw [if_neg (by simpa using h)]
theorem scanUp_go {p : SE → Bool} {d : Array SE} {j i : Nat} (h1 : i ≤ j) (h2 : p d[i]! = true) : scanUp p d j i = scanUp p d j (i + 1) := by
  conv => lhs; unfold scanUp
  rw [if_pos (by simp [h1, h2])]
theorem scanDown_stop {p : SE → Bool} {d : Array SE} {i j : Nat} (h : ¬ (i ≤ j ∧ p d[j]! = true)) : scanDown p d i j = j := by
  cases j with
  | zero => rfl
  | succ j => unfold scanDown; rw [if_neg (by simpa using h)]
theorem scanDown_go {p : SE → Bool} {d : Array SE} {i j : Nat} (h1 : i ≤ j + 1) (h2 : p d[j + 1]! = true) : scanDown p d i (j + 1) = scanDown p d i j := by
  conv => lhs; unfold scanDown
  rw [if_pos (by simp [h1, h2])]
theorem scanUp_ge (p : SE → Bool) (d : Array SE) (j : Nat) : ∀ (f i : Nat), j + 1 ≤ i + f → i ≤ scanUp p d j i ∧ (scanUp p d j i ≤ i ∨ scanUp p d j i ≤ j + 1) := by
  intro f
  induction f with
  | zero => intro i hf; rw [scanUp_stop (by omega)]; omega
  | succ f ih =>
    intro i hf
    by_cases h : i ≤ j ∧ p d[i]! = true
    · rw [scanUp_go h.1 h.2]
      have := ih (i + 1) (by omega)
      omega
    · rw [scanUp_stop h]; omega
theorem scanDown_le (p : SE → Bool) (d : Array SE) (i : Nat) : ∀ (j : Nat), scanDown p d i j ≤ j
  | 0 => Nat.le_refl _
  | j + 1 => by
    by_cases h : i ≤ j + 1 ∧ p d[j + 1]! = true
    · rw [scanDown_go h.1 h.2]; have := scanDown_le p d i j; omega
    · rw [scanDown_stop h]; omega
def r115l0 : RCode :=
  (.seq (.seq (.region [
    ⟨(some 30), none, .pure, .mv (.tmp 10)⟩,
    ⟨(some 31), none, .pure, .mv (.tmp 11)⟩,
    ⟨(some 32), none, .pure, .bin .leq (.tmp 30) (.tmp 31)⟩,
    ⟨(some 33), none, .pure, .mv (.tmp 32)⟩,
    ⟨(some 34), (some (33, true)), .pure, .mv (.tmp 0)⟩,
    ⟨(some 35), (some (33, true)), .pure, .mv (.tmp 10)⟩,
    ⟨(some 36), (some (33, true)), .pure, .indexAddr 1 (.tmp 34) (.tmp 35)⟩,
    ⟨(some 37), (some (33, true)), .read, .load false 1 (.tmp 36)⟩,
    ⟨(some 38), (some (33, true)), .pure, .mv (.tmp 0)⟩,
    ⟨(some 39), (some (33, true)), .pure, .mv (.tmp 1)⟩,
    ⟨(some 40), (some (33, true)), .pure, .indexAddr 1 (.tmp 38) (.tmp 39)⟩,
    ⟨(some 41), (some (33, true)), .read, .load false 1 (.tmp 40)⟩,
    ⟨(some 42), (some (33, true)), .act, .call 113 [(.tmp 37), (.tmp 41)]⟩,
    ⟨(some 43), none, .pure, .pick (.tmp 33) (.tmp 42) (.const (.bool false))⟩])
  (.cond (.tmp 43)
   .skip
   (.exit 0)))
  (.block 1
   (.region [
     ⟨(some 44), none, .act, .mv (.tmp 10)⟩,
     ⟨(some 45), none, .act, .bin .add (.tmp 44) (.const (.int .i64 1))⟩,
     ⟨(some 10), none, .act, .mv (.tmp 45)⟩])))
def r115l1 : RCode :=
  (.seq (.seq (.region [
    ⟨(some 46), none, .pure, .mv (.tmp 10)⟩,
    ⟨(some 47), none, .pure, .mv (.tmp 11)⟩,
    ⟨(some 48), none, .pure, .bin .leq (.tmp 46) (.tmp 47)⟩,
    ⟨(some 49), none, .pure, .mv (.tmp 48)⟩,
    ⟨(some 50), (some (49, true)), .pure, .mv (.tmp 0)⟩,
    ⟨(some 51), (some (49, true)), .pure, .mv (.tmp 11)⟩,
    ⟨(some 52), (some (49, true)), .pure, .indexAddr 1 (.tmp 50) (.tmp 51)⟩,
    ⟨(some 53), (some (49, true)), .read, .load false 1 (.tmp 52)⟩,
    ⟨(some 54), (some (49, true)), .pure, .mv (.tmp 0)⟩,
    ⟨(some 55), (some (49, true)), .pure, .mv (.tmp 1)⟩,
    ⟨(some 56), (some (49, true)), .pure, .indexAddr 1 (.tmp 54) (.tmp 55)⟩,
    ⟨(some 57), (some (49, true)), .read, .load false 1 (.tmp 56)⟩,
    ⟨(some 58), (some (49, true)), .act, .call 113 [(.tmp 53), (.tmp 57)]⟩,
    ⟨(some 59), (some (49, true)), .pure, .un .not (.tmp 58)⟩,
    ⟨(some 60), none, .pure, .pick (.tmp 49) (.tmp 59) (.const (.bool false))⟩])
  (.cond (.tmp 60)
   .skip
   (.exit 2)))
  (.block 3
   (.region [
     ⟨(some 61), none, .act, .mv (.tmp 11)⟩,
     ⟨(some 62), none, .act, .bin .sub (.tmp 61) (.const (.int .i64 1))⟩,
     ⟨(some 11), none, .act, .mv (.tmp 62)⟩])))
def r115l3 : RCode :=
  (.seq (.seq (.region [
    ⟨(some 99), none, .pure, .mv (.tmp 10)⟩,
    ⟨(some 100), none, .pure, .mv (.tmp 11)⟩,
    ⟨(some 101), none, .pure, .bin .leq (.tmp 99) (.tmp 100)⟩,
    ⟨(some 102), none, .pure, .mv (.tmp 101)⟩,
    ⟨(some 103), (some (102, true)), .pure, .mv (.tmp 0)⟩,
    ⟨(some 104), (some (102, true)), .pure, .mv (.tmp 10)⟩,
    ⟨(some 105), (some (102, true)), .pure, .indexAddr 1 (.tmp 103) (.tmp 104)⟩,
    ⟨(some 106), (some (102, true)), .read, .load false 1 (.tmp 105)⟩,
    ⟨(some 107), (some (102, true)), .pure, .mv (.tmp 0)⟩,
    ⟨(some 108), (some (102, true)), .pure, .mv (.tmp 1)⟩,
    ⟨(some 109), (some (102, true)), .pure, .indexAddr 1 (.tmp 107) (.tmp 108)⟩,
    ⟨(some 110), (some (102, true)), .read, .load false 1 (.tmp 109)⟩,
    ⟨(some 111), (some (102, true)), .act, .call 113 [(.tmp 106), (.tmp 110)]⟩,
    ⟨(some 112), none, .pure, .pick (.tmp 102) (.tmp 111) (.const (.bool false))⟩])
  (.cond (.tmp 112)
   .skip
   (.exit 6)))
  (.block 7
   (.region [
     ⟨(some 113), none, .act, .mv (.tmp 10)⟩,
     ⟨(some 114), none, .act, .bin .add (.tmp 113) (.const (.int .i64 1))⟩,
     ⟨(some 10), none, .act, .mv (.tmp 114)⟩])))
def r115l4 : RCode :=
  (.seq (.seq (.region [
    ⟨(some 115), none, .pure, .mv (.tmp 10)⟩,
    ⟨(some 116), none, .pure, .mv (.tmp 11)⟩,
    ⟨(some 117), none, .pure, .bin .leq (.tmp 115) (.tmp 116)⟩,
    ⟨(some 118), none, .pure, .mv (.tmp 117)⟩,
    ⟨(some 119), (some (118, true)), .pure, .mv (.tmp 0)⟩,
    ⟨(some 120), (some (118, true)), .pure, .mv (.tmp 11)⟩,
    ⟨(some 121), (some (118, true)), .pure, .indexAddr 1 (.tmp 119) (.tmp 120)⟩,
    ⟨(some 122), (some (118, true)), .read, .load false 1 (.tmp 121)⟩,
    ⟨(some 123), (some (118, true)), .pure, .mv (.tmp 0)⟩,
    ⟨(some 124), (some (118, true)), .pure, .mv (.tmp 1)⟩,
    ⟨(some 125), (some (118, true)), .pure, .indexAddr 1 (.tmp 123) (.tmp 124)⟩,
    ⟨(some 126), (some (118, true)), .read, .load false 1 (.tmp 125)⟩,
    ⟨(some 127), (some (118, true)), .act, .call 113 [(.tmp 122), (.tmp 126)]⟩,
    ⟨(some 128), (some (118, true)), .pure, .un .not (.tmp 127)⟩,
    ⟨(some 129), none, .pure, .pick (.tmp 118) (.tmp 128) (.const (.bool false))⟩])
  (.cond (.tmp 129)
   .skip
   (.exit 8)))
  (.block 9
   (.region [
     ⟨(some 130), none, .act, .mv (.tmp 11)⟩,
     ⟨(some 131), none, .act, .bin .sub (.tmp 130) (.const (.int .i64 1))⟩,
     ⟨(some 11), none, .act, .mv (.tmp 131)⟩])))
def r115l2 : RCode :=
  (.block 5
   (.seq (.block 6
    (.loop r115l3))
   (.seq (.block 8
    (.loop r115l4))
   (.seq (.seq (.region [
     ⟨(some 132), none, .act, .mv (.tmp 10)⟩,
     ⟨(some 133), none, .act, .mv (.tmp 11)⟩,
     ⟨(some 134), none, .act, .bin .gtr (.tmp 132) (.tmp 133)⟩])
   (.cond (.tmp 134)
    (.exit 4)
    .skip))
   (.seq (.region [
     ⟨(some 135), none, .pure, .mv (.tmp 0)⟩,
     ⟨(some 136), none, .pure, .mv (.tmp 10)⟩,
     ⟨(some 137), none, .pure, .mv (.tmp 0)⟩,
     ⟨(some 138), none, .pure, .mv (.tmp 11)⟩,
     ⟨(some 139), none, .pure, .mv (.tmp 0)⟩,
     ⟨(some 140), none, .pure, .mv (.tmp 11)⟩,
     ⟨(some 141), none, .pure, .indexAddr 1 (.tmp 139) (.tmp 140)⟩,
     ⟨(some 142), none, .read, .load false 1 (.tmp 141)⟩,
     ⟨(some 143), none, .pure, .mv (.tmp 0)⟩,
     ⟨(some 144), none, .pure, .mv (.tmp 10)⟩,
     ⟨(some 145), none, .pure, .indexAddr 1 (.tmp 143) (.tmp 144)⟩,
     ⟨(some 146), none, .read, .load false 1 (.tmp 145)⟩,
     ⟨(some 147), none, .pure, .indexAddr 1 (.tmp 135) (.tmp 136)⟩,
     ⟨none, none, .act, .store 1 (.tmp 147) (.tmp 142)⟩,
     ⟨(some 148), none, .pure, .indexAddr 1 (.tmp 137) (.tmp 138)⟩,
     ⟨none, none, .act, .store 1 (.tmp 148) (.tmp 146)⟩])
   (.seq (.region [
     ⟨(some 149), none, .act, .mv (.tmp 10)⟩,
     ⟨(some 150), none, .act, .bin .add (.tmp 149) (.const (.int .i64 1))⟩,
     ⟨(some 10), none, .act, .mv (.tmp 150)⟩])
   (.region [
     ⟨(some 151), none, .act, .mv (.tmp 11)⟩,
     ⟨(some 152), none, .act, .bin .sub (.tmp 151) (.const (.int .i64 1))⟩,
     ⟨(some 11), none, .act, .mv (.tmp 152)⟩])))))))
def r115 : RCode :=
  (.seq (.region [
    ⟨(some 8), none, .act, .mv (.const (.int .i64 0))⟩,
    ⟨(some 9), none, .act, .mv (.const (.bool false))⟩])
  (.seq (.region [
    ⟨(some 12), none, .pure, .mv (.tmp 0)⟩,
    ⟨(some 13), none, .pure, .mv (.tmp 1)⟩,
    ⟨(some 14), none, .pure, .mv (.tmp 0)⟩,
    ⟨(some 15), none, .pure, .mv (.tmp 3)⟩,
    ⟨(some 16), none, .pure, .mv (.tmp 0)⟩,
    ⟨(some 17), none, .pure, .mv (.tmp 3)⟩,
    ⟨(some 18), none, .pure, .indexAddr 1 (.tmp 16) (.tmp 17)⟩,
    ⟨(some 19), none, .read, .load false 1 (.tmp 18)⟩,
    ⟨(some 20), none, .pure, .mv (.tmp 0)⟩,
    ⟨(some 21), none, .pure, .mv (.tmp 1)⟩,
    ⟨(some 22), none, .pure, .indexAddr 1 (.tmp 20) (.tmp 21)⟩,
    ⟨(some 23), none, .read, .load false 1 (.tmp 22)⟩,
    ⟨(some 24), none, .pure, .indexAddr 1 (.tmp 12) (.tmp 13)⟩,
    ⟨none, none, .act, .store 1 (.tmp 24) (.tmp 19)⟩,
    ⟨(some 25), none, .pure, .indexAddr 1 (.tmp 14) (.tmp 15)⟩,
    ⟨none, none, .act, .store 1 (.tmp 25) (.tmp 23)⟩])
  (.seq (.region [
    ⟨(some 26), none, .act, .mv (.tmp 1)⟩,
    ⟨(some 27), none, .act, .bin .add (.tmp 26) (.const (.int .i64 1))⟩,
    ⟨(some 28), none, .act, .mv (.tmp 2)⟩,
    ⟨(some 29), none, .act, .bin .sub (.tmp 28) (.const (.int .i64 1))⟩,
    ⟨(some 10), none, .act, .mv (.tmp 27)⟩,
    ⟨(some 11), none, .act, .mv (.tmp 29)⟩])
  (.seq (.block 0
   (.loop r115l0))
  (.seq (.block 2
   (.loop r115l1))
  (.seq (.seq (.region [
    ⟨(some 63), none, .act, .mv (.tmp 10)⟩,
    ⟨(some 64), none, .act, .mv (.tmp 11)⟩,
    ⟨(some 65), none, .act, .bin .gtr (.tmp 63) (.tmp 64)⟩])
  (.cond (.tmp 65)
   (.seq (.region [
     ⟨(some 66), none, .pure, .mv (.tmp 0)⟩,
     ⟨(some 67), none, .pure, .mv (.tmp 11)⟩,
     ⟨(some 68), none, .pure, .mv (.tmp 0)⟩,
     ⟨(some 69), none, .pure, .mv (.tmp 1)⟩,
     ⟨(some 70), none, .pure, .mv (.tmp 0)⟩,
     ⟨(some 71), none, .pure, .mv (.tmp 1)⟩,
     ⟨(some 72), none, .pure, .indexAddr 1 (.tmp 70) (.tmp 71)⟩,
     ⟨(some 73), none, .read, .load false 1 (.tmp 72)⟩,
     ⟨(some 74), none, .pure, .mv (.tmp 0)⟩,
     ⟨(some 75), none, .pure, .mv (.tmp 11)⟩,
     ⟨(some 76), none, .pure, .indexAddr 1 (.tmp 74) (.tmp 75)⟩,
     ⟨(some 77), none, .read, .load false 1 (.tmp 76)⟩,
     ⟨(some 78), none, .pure, .indexAddr 1 (.tmp 66) (.tmp 67)⟩,
     ⟨none, none, .act, .store 1 (.tmp 78) (.tmp 73)⟩,
     ⟨(some 79), none, .pure, .indexAddr 1 (.tmp 68) (.tmp 69)⟩,
     ⟨none, none, .act, .store 1 (.tmp 79) (.tmp 77)⟩])
   (.seq (.region [
     ⟨(some 80), none, .act, .mv (.tmp 11)⟩,
     ⟨(some 8), none, .act, .mv (.tmp 80)⟩,
     ⟨(some 9), none, .act, .mv (.const (.bool true))⟩])
   .ret))
   .skip))
  (.seq (.region [
    ⟨(some 81), none, .pure, .mv (.tmp 0)⟩,
    ⟨(some 82), none, .pure, .mv (.tmp 10)⟩,
    ⟨(some 83), none, .pure, .mv (.tmp 0)⟩,
    ⟨(some 84), none, .pure, .mv (.tmp 11)⟩,
    ⟨(some 85), none, .pure, .mv (.tmp 0)⟩,
    ⟨(some 86), none, .pure, .mv (.tmp 11)⟩,
    ⟨(some 87), none, .pure, .indexAddr 1 (.tmp 85) (.tmp 86)⟩,
    ⟨(some 88), none, .read, .load false 1 (.tmp 87)⟩,
    ⟨(some 89), none, .pure, .mv (.tmp 0)⟩,
    ⟨(some 90), none, .pure, .mv (.tmp 10)⟩,
    ⟨(some 91), none, .pure, .indexAddr 1 (.tmp 89) (.tmp 90)⟩,
    ⟨(some 92), none, .read, .load false 1 (.tmp 91)⟩,
    ⟨(some 93), none, .pure, .indexAddr 1 (.tmp 81) (.tmp 82)⟩,
    ⟨none, none, .act, .store 1 (.tmp 93) (.tmp 88)⟩,
    ⟨(some 94), none, .pure, .indexAddr 1 (.tmp 83) (.tmp 84)⟩,
    ⟨none, none, .act, .store 1 (.tmp 94) (.tmp 92)⟩])
  (.seq (.region [
    ⟨(some 95), none, .act, .mv (.tmp 10)⟩,
    ⟨(some 96), none, .act, .bin .add (.tmp 95) (.const (.int .i64 1))⟩,
    ⟨(some 10), none, .act, .mv (.tmp 96)⟩])
  (.seq (.region [
    ⟨(some 97), none, .act, .mv (.tmp 11)⟩,
    ⟨(some 98), none, .act, .bin .sub (.tmp 97) (.const (.int .i64 1))⟩,
    ⟨(some 11), none, .act, .mv (.tmp 98)⟩])
  (.seq (.block 4
   (.loop r115l2))
  (.seq (.region [
    ⟨(some 153), none, .pure, .mv (.tmp 0)⟩,
    ⟨(some 154), none, .pure, .mv (.tmp 11)⟩,
    ⟨(some 155), none, .pure, .mv (.tmp 0)⟩,
    ⟨(some 156), none, .pure, .mv (.tmp 1)⟩,
    ⟨(some 157), none, .pure, .mv (.tmp 0)⟩,
    ⟨(some 158), none, .pure, .mv (.tmp 1)⟩,
    ⟨(some 159), none, .pure, .indexAddr 1 (.tmp 157) (.tmp 158)⟩,
    ⟨(some 160), none, .read, .load false 1 (.tmp 159)⟩,
    ⟨(some 161), none, .pure, .mv (.tmp 0)⟩,
    ⟨(some 162), none, .pure, .mv (.tmp 11)⟩,
    ⟨(some 163), none, .pure, .indexAddr 1 (.tmp 161) (.tmp 162)⟩,
    ⟨(some 164), none, .read, .load false 1 (.tmp 163)⟩,
    ⟨(some 165), none, .pure, .indexAddr 1 (.tmp 153) (.tmp 154)⟩,
    ⟨none, none, .act, .store 1 (.tmp 165) (.tmp 160)⟩,
    ⟨(some 166), none, .pure, .indexAddr 1 (.tmp 155) (.tmp 156)⟩,
    ⟨none, none, .act, .store 1 (.tmp 166) (.tmp 164)⟩])
  (.seq (.region [
    ⟨(some 167), none, .act, .mv (.tmp 11)⟩,
    ⟨(some 8), none, .act, .mv (.tmp 167)⟩,
    ⟨(some 9), none, .act, .mv (.const (.bool false))⟩])
  .ret))))))))))))
theorem res115 : ∃ c, Try.f115.body = some c ∧ resCode Try.prog 168 c = some r115 := ⟨_, rfl, by kernel_rfl⟩
theorem rr115 : resRes Try.prog Try.f115.results.toList = some [.tmp 8, .tmp 9] := by kernel_rfl
theorem scanUp_p1 (q cap n a j : Nat) (sp : List AV) (h : AHeap) (hn : n ≤ 1000000) (ha : a < n) (hj : j < n) (d : Array SE) (hd : d.size = n) (k : List RT) (Q : AV → AHeap → Prop) : ∀ (f i : Nat), j + 1 ≤ i + f → i ≤ n →
    RRun Try.prog Try.f115 168 k (Env.get [(0, slAt q 0 n cap), (1, i64 a), (10, i64 (scanUp (fun x => ltE x d[a]!) d j i : Nat)), (11, i64 j)]) (HL h q d.toList sp) Q →
    RRun Try.prog Try.f115 168 (.inLoop r115l0 :: .inBlock 0 :: k) (Env.get [(0, slAt q 0 n cap), (1, i64 a), (10, i64 i), (11, i64 j)]) (HL h q d.toList sp) Q := by
  intro f
  induction f with
  | zero =>
    intro i hf hin hk
    rw [scanUp_stop (by omega)] at hk
    refine RRun.inLoop ?_
    repeat' (first | refine S.nilK ?_ | (refine S.op rfl ?_; first | refine R.mv rfl ?_ | refine R.pickF rfl rfl ?_ | ((first | refine S.leq rfl rfl ?_ ?_) <;> intro hlt <;> try (exfalso; omega))) | refine S.skip rfl ?_ | refine S.seq ?_ | refine S.region ?_ | refine S.condF rfl ?_ | refine RRun.exit rfl ?_)
    exact S.keep [0, 1, 10, 11] rfl hk
  | succ f ih =>
    intro i hf hin hk
    by_cases hij : i ≤ j
    · cases hl : ltE d[i]! d[a]! with
      | true =>
        rw [scanUp_go hij (by simp [hl])] at hk
        refine RRun.inLoop ?_
        repeat' (first | refine S.nilK ?_ | (refine S.op rfl ?_; first | refine S.addNN (n := 1) rfl rfl (by omega) ?_ | refine S.ix rfl rfl (by omega) ?_ | refine S.ldE (by decide) rfl (by omega) ?_ | refine callS rfl rfl (less_is hl _) ?_ | refine R.mv rfl ?_ | refine R.pickT rfl rfl ?_ | ((first | refine S.leq rfl rfl ?_ ?_) <;> intro hlt <;> try (exfalso; omega))) | refine S.seq ?_ | refine S.region ?_ | refine S.condT rfl ?_ | refine RRun.skip ?_ | refine RRun.block ?_ | refine RRun.inBlock ?_)
        exact S.keep [0, 1, 10, 11] rfl (ih (i + 1) (by omega) (by omega) hk)
      | false =>
        rw [scanUp_stop (by simp [hl])] at hk
        refine RRun.inLoop ?_
        repeat' (first | refine S.nilK ?_ | (refine S.op rfl ?_; first | refine S.ix rfl rfl (by omega) ?_ | refine S.ldE (by decide) rfl (by omega) ?_ | refine callS rfl rfl (less_is hl _) ?_ | refine R.mv rfl ?_ | refine R.pickT rfl rfl ?_ | ((first | refine S.leq rfl rfl ?_ ?_) <;> intro hlt <;> try (exfalso; omega))) | refine S.seq ?_ | refine S.region ?_ | refine S.condF rfl ?_ | refine RRun.exit rfl ?_)
        exact S.keep [0, 1, 10, 11] rfl hk
    · rw [scanUp_stop (by omega)] at hk
      refine RRun.inLoop ?_
      repeat' (first | refine S.nilK ?_ | (refine S.op rfl ?_; first | refine R.mv rfl ?_ | refine R.pickF rfl rfl ?_ | ((first | refine S.leq rfl rfl ?_ ?_) <;> intro hlt <;> try (exfalso; omega))) | refine S.skip rfl ?_ | refine S.seq ?_ | refine S.region ?_ | refine S.condF rfl ?_ | refine RRun.exit rfl ?_)
      exact S.keep [0, 1, 10, 11] rfl hk
theorem scanDown_p1 (q cap n a i : Nat) (sp : List AV) (h : AHeap) (hn : n ≤ 1000000) (ha : a < n) (hi : 1 ≤ i) (d : Array SE) (hd : d.size = n) (k : List RT) (Q : AV → AHeap → Prop) : ∀ (j : Nat), j < n →
    RRun Try.prog Try.f115 168 k (Env.get [(0, slAt q 0 n cap), (1, i64 a), (10, i64 i), (11, i64 (scanDown (fun x => !ltE x d[a]!) d i j : Nat))]) (HL h q d.toList sp) Q →
    RRun Try.prog Try.f115 168 (.inLoop r115l1 :: .inBlock 2 :: k) (Env.get [(0, slAt q 0 n cap), (1, i64 a), (10, i64 i), (11, i64 j)]) (HL h q d.toList sp) Q := by
  have stop : ∀ (j : Nat), ¬ i ≤ j → RRun Try.prog Try.f115 168 k (Env.get [(0, slAt q 0 n cap), (1, i64 a), (10, i64 i), (11, i64 (scanDown (fun x => !ltE x d[a]!) d i j : Nat))]) (HL h q d.toList sp) Q →
    RRun Try.prog Try.f115 168 (.inLoop r115l1 :: .inBlock 2 :: k) (Env.get [(0, slAt q 0 n cap), (1, i64 a), (10, i64 i), (11, i64 j)]) (HL h q d.toList sp) Q := by
    intro j hij hk
    rw [scanDown_stop (by omega)] at hk
    refine RRun.inLoop ?_
    repeat' (first | refine S.nilK ?_ | (refine S.op rfl ?_; first | refine R.mv rfl ?_ | refine R.pickF rfl rfl ?_ | ((first | refine S.leq rfl rfl ?_ ?_) <;> intro hlt <;> try (exfalso; omega))) | refine S.skip rfl ?_ | refine S.seq ?_ | refine S.region ?_ | refine S.condF rfl ?_ | refine RRun.exit rfl ?_)
    exact S.keep [0, 1, 10, 11] rfl hk
  intro j
  induction j with
  | zero => intro hj hk; exact stop 0 (by omega) hk
  | succ j ih =>
    intro hj hk
    by_cases hij : i ≤ j + 1
    · cases hl : ltE d[j + 1]! d[a]! with
      | false =>
        rw [scanDown_go hij (by simp [hl])] at hk
        refine RRun.inLoop ?_
        repeat' (first | refine S.nilK ?_ | (refine S.op rfl ?_; first | refine S.subNN (n := 1) rfl rfl (by omega) (by omega) ?_ | refine S.ix rfl rfl (by omega) ?_ | refine S.ldE (by decide) rfl (by omega) ?_ | refine callS rfl rfl (less_is hl _) ?_ | refine R.mv rfl ?_ | refine R.pickT rfl rfl ?_ | refine R.not rfl ?_ | ((first | refine S.leq rfl rfl ?_ ?_) <;> intro hlt <;> try (exfalso; omega))) | refine S.seq ?_ | refine S.region ?_ | refine S.condT rfl ?_ | refine RRun.skip ?_ | refine RRun.block ?_ | refine RRun.inBlock ?_)
        exact S.keep [0, 1, 10, 11] rfl (ih (by omega) hk)
      | true =>
        rw [scanDown_stop (by simp [hl])] at hk
        refine RRun.inLoop ?_
        repeat' (first | refine S.nilK ?_ | (refine S.op rfl ?_; first | refine S.ix rfl rfl (by omega) ?_ | refine S.ldE (by decide) rfl (by omega) ?_ | refine callS rfl rfl (less_is hl _) ?_ | refine R.mv rfl ?_ | refine R.pickT rfl rfl ?_ | refine R.not rfl ?_ | ((first | refine S.leq rfl rfl ?_ ?_) <;> intro hlt <;> try (exfalso; omega))) | refine S.seq ?_ | refine S.region ?_ | refine S.condF rfl ?_ | refine RRun.exit rfl ?_)
        exact S.keep [0, 1, 10, 11] rfl hk
    · exact stop (j + 1) hij hk
theorem scanUp_p2 (q cap n a j : Nat) (sp : List AV) (h : AHeap) (hn : n ≤ 1000000) (ha : a < n) (hj : j < n) (d : Array SE) (hd : d.size = n) (k : List RT) (Q : AV → AHeap → Prop) : ∀ (f i : Nat), j + 1 ≤ i + f → i ≤ n →
    RRun Try.prog Try.f115 168 k (Env.get [(0, slAt q 0 n cap), (1, i64 a), (10, i64 (scanUp (fun x => ltE x d[a]!) d j i : Nat)), (11, i64 j)]) (HL h q d.toList sp) Q →
    RRun Try.prog Try.f115 168 (.inLoop r115l3 :: .inBlock 6 :: k) (Env.get [(0, slAt q 0 n cap), (1, i64 a), (10, i64 i), (11, i64 j)]) (HL h q d.toList sp) Q := by
  intro f
  induction f with
  | zero =>
    intro i hf hin hk
    rw [scanUp_stop (by omega)] at hk
    refine RRun.inLoop ?_
    repeat' (first | refine S.nilK ?_ | (refine S.op rfl ?_; first | refine R.mv rfl ?_ | refine R.pickF rfl rfl ?_ | ((first | refine S.leq rfl rfl ?_ ?_) <;> intro hlt <;> try (exfalso; omega))) | refine S.skip rfl ?_ | refine S.seq ?_ | refine S.region ?_ | refine S.condF rfl ?_ | refine RRun.exit rfl ?_)
    exact S.keep [0, 1, 10, 11] rfl hk
  | succ f ih =>
    intro i hf hin hk
    by_cases hij : i ≤ j
    · cases hl : ltE d[i]! d[a]! with
      | true =>
        rw [scanUp_go hij (by simp [hl])] at hk
        refine RRun.inLoop ?_
        repeat' (first | refine S.nilK ?_ | (refine S.op rfl ?_; first | refine S.addNN (n := 1) rfl rfl (by omega) ?_ | refine S.ix rfl rfl (by omega) ?_ | refine S.ldE (by decide) rfl (by omega) ?_ | refine callS rfl rfl (less_is hl _) ?_ | refine R.mv rfl ?_ | refine R.pickT rfl rfl ?_ | ((first | refine S.leq rfl rfl ?_ ?_) <;> intro hlt <;> try (exfalso; omega))) | refine S.seq ?_ | refine S.region ?_ | refine S.condT rfl ?_ | refine RRun.skip ?_ | refine RRun.block ?_ | refine RRun.inBlock ?_)
        exact S.keep [0, 1, 10, 11] rfl (ih (i + 1) (by omega) (by omega) hk)
      | false =>
        rw [scanUp_stop (by simp [hl])] at hk
        refine RRun.inLoop ?_
        repeat' (first | refine S.nilK ?_ | (refine S.op rfl ?_; first | refine S.ix rfl rfl (by omega) ?_ | refine S.ldE (by decide) rfl (by omega) ?_ | refine callS rfl rfl (less_is hl _) ?_ | refine R.mv rfl ?_ | refine R.pickT rfl rfl ?_ | ((first | refine S.leq rfl rfl ?_ ?_) <;> intro hlt <;> try (exfalso; omega))) | refine S.seq ?_ | refine S.region ?_ | refine S.condF rfl ?_ | refine RRun.exit rfl ?_)
        exact S.keep [0, 1, 10, 11] rfl hk
    · rw [scanUp_stop (by omega)] at hk
      refine RRun.inLoop ?_
      repeat' (first | refine S.nilK ?_ | (refine S.op rfl ?_; first | refine R.mv rfl ?_ | refine R.pickF rfl rfl ?_ | ((first | refine S.leq rfl rfl ?_ ?_) <;> intro hlt <;> try (exfalso; omega))) | refine S.skip rfl ?_ | refine S.seq ?_ | refine S.region ?_ | refine S.condF rfl ?_ | refine RRun.exit rfl ?_)
      exact S.keep [0, 1, 10, 11] rfl hk
theorem scanDown_p2 (q cap n a i : Nat) (sp : List AV) (h : AHeap) (hn : n ≤ 1000000) (ha : a < n) (hi : 1 ≤ i) (d : Array SE) (hd : d.size = n) (k : List RT) (Q : AV → AHeap → Prop) : ∀ (j : Nat), j < n →
    RRun Try.prog Try.f115 168 k (Env.get [(0, slAt q 0 n cap), (1, i64 a), (10, i64 i), (11, i64 (scanDown (fun x => !ltE x d[a]!) d i j : Nat))]) (HL h q d.toList sp) Q →
    RRun Try.prog Try.f115 168 (.inLoop r115l4 :: .inBlock 8 :: k) (Env.get [(0, slAt q 0 n cap), (1, i64 a), (10, i64 i), (11, i64 j)]) (HL h q d.toList sp) Q := by
  have stop : ∀ (j : Nat), ¬ i ≤ j → RRun Try.prog Try.f115 168 k (Env.get [(0, slAt q 0 n cap), (1, i64 a), (10, i64 i), (11, i64 (scanDown (fun x => !ltE x d[a]!) d i j : Nat))]) (HL h q d.toList sp) Q →
    RRun Try.prog Try.f115 168 (.inLoop r115l4 :: .inBlock 8 :: k) (Env.get [(0, slAt q 0 n cap), (1, i64 a), (10, i64 i), (11, i64 j)]) (HL h q d.toList sp) Q := by
    intro j hij hk
    rw [scanDown_stop (by omega)] at hk
    refine RRun.inLoop ?_
    repeat' (first | refine S.nilK ?_ | (refine S.op rfl ?_; first | refine R.mv rfl ?_ | refine R.pickF rfl rfl ?_ | ((first | refine S.leq rfl rfl ?_ ?_) <;> intro hlt <;> try (exfalso; omega))) | refine S.skip rfl ?_ | refine S.seq ?_ | refine S.region ?_ | refine S.condF rfl ?_ | refine RRun.exit rfl ?_)
    exact S.keep [0, 1, 10, 11] rfl hk
  intro j
  induction j with
  | zero => intro hj hk; exact stop 0 (by omega) hk
  | succ j ih =>
    intro hj hk
    by_cases hij : i ≤ j + 1
    · cases hl : ltE d[j + 1]! d[a]! with
      | false =>
        rw [scanDown_go hij (by simp [hl])] at hk
        refine RRun.inLoop ?_
        repeat' (first | refine S.nilK ?_ | (refine S.op rfl ?_; first | refine S.subNN (n := 1) rfl rfl (by omega) (by omega) ?_ | refine S.ix rfl rfl (by omega) ?_ | refine S.ldE (by decide) rfl (by omega) ?_ | refine callS rfl rfl (less_is hl _) ?_ | refine R.mv rfl ?_ | refine R.pickT rfl rfl ?_ | refine R.not rfl ?_ | ((first | refine S.leq rfl rfl ?_ ?_) <;> intro hlt <;> try (exfalso; omega))) | refine S.seq ?_ | refine S.region ?_ | refine S.condT rfl ?_ | refine RRun.skip ?_ | refine RRun.block ?_ | refine RRun.inBlock ?_)
        exact S.keep [0, 1, 10, 11] rfl (ih (by omega) hk)
      | true =>
        rw [scanDown_stop (by simp [hl])] at hk
        refine RRun.inLoop ?_
        repeat' (first | refine S.nilK ?_ | (refine S.op rfl ?_; first | refine S.ix rfl rfl (by omega) ?_ | refine S.ldE (by decide) rfl (by omega) ?_ | refine callS rfl rfl (less_is hl _) ?_ | refine R.mv rfl ?_ | refine R.pickT rfl rfl ?_ | refine R.not rfl ?_ | ((first | refine S.leq rfl rfl ?_ ?_) <;> intro hlt <;> try (exfalso; omega))) | refine S.seq ?_ | refine S.region ?_ | refine S.condF rfl ?_ | refine RRun.exit rfl ?_)
        exact S.keep [0, 1, 10, 11] rfl hk
    · exact stop (j + 1) hij hk
end Go.Proofs.Ytnmgamcmjjngcaa

namespace Go.Proofs.Ytnmgamcmjjngcaa
open Go.Av
open Go.Sort (swp PermIn SortedIn Below SWO scanUp scanDown)
theorem part_loop (q cap n a : Nat) (sp : List AV) (h : AHeap) (hn : n ≤ 1000000) (ha : a < n) (k : List RT) (Q : AV → AHeap → Prop) : ∀ (f i j : Nat) (d : Array SE), d.size = n → j + 1 ≤ i + f → a < i → i ≤ n → j < n →
    (∀ r, r = Go.Sort.partLoop ltE a i j d → r.2.size = n → r.1 < n → RRun Try.prog Try.f115 168 k (Env.get [(0, slAt q 0 n cap), (1, i64 a), (11, i64 (r.1 : Nat))]) (HL h q r.2.toList sp) Q) →
    RRun Try.prog Try.f115 168 (.inLoop r115l2 :: .inBlock 4 :: k) (Env.get [(0, slAt q 0 n cap), (1, i64 a), (10, i64 i), (11, i64 j)]) (HL h q d.toList sp) Q := by
  intro f
  induction f with
  | zero =>
    intro i j d hd hf hai hin hj hk
    rw [Go.Sort.partLoop_eq] at hk
    have g1 := scanUp_ge (fun x => ltE x d[a]!) d j (j + 1) i (by omega)
    have g2 := scanDown_le (fun x => !ltE x d[a]!) d (scanUp (fun x => ltE x d[a]!) d j i) j
    have e : scanUp (fun x => ltE x d[a]!) d j i > scanDown (fun x => !ltE x d[a]!) d (scanUp (fun x => ltE x d[a]!) d j i) j := by omega
    rw [if_pos e] at hk
    refine RRun.inLoop ?_
    unfold r115l2
    repeat' (first | refine S.seq ?_ | refine RRun.block ?_)
    refine RRun.loopIn (S.keep [0, 1, 10, 11] rfl (scanUp_p2 q cap n a j sp h hn ha hj d hd _ _ (j + 1) i (by omega) (by omega) ?_))
    repeat' (first | refine S.seq ?_ | refine RRun.block ?_)
    refine RRun.loopIn (S.keep [0, 1, 10, 11] rfl (scanDown_p2 q cap n a _ sp h hn ha (by omega) d hd _ _ j hj ?_))
    generalize scanUp (fun x => ltE x d[a]!) d j i = i2 at *
    generalize scanDown (fun x => !ltE x d[a]!) d i2 j = j2 at *
    repeat' (first | refine S.nilK ?_ | (refine S.op rfl ?_; first | refine R.mv rfl ?_ | ((first | refine S.gtr rfl rfl ?_ ?_) <;> intro hlt <;> try (exfalso; omega))) | refine S.seq ?_ | refine S.region ?_ | refine S.condT rfl ?_ | refine RRun.exit rfl ?_)
    exact S.keep [0, 1, 11] rfl (hk _ rfl hd (by omega))
  | succ f ih =>
    intro i j d hd hf hai hin hj hk
    rw [Go.Sort.partLoop_eq] at hk
    have g1 := scanUp_ge (fun x => ltE x d[a]!) d j (j + 1) i (by omega)
    have g2 := scanDown_le (fun x => !ltE x d[a]!) d (scanUp (fun x => ltE x d[a]!) d j i) j
    refine RRun.inLoop ?_
    unfold r115l2
    repeat' (first | refine S.seq ?_ | refine RRun.block ?_)
    refine RRun.loopIn (S.keep [0, 1, 10, 11] rfl (scanUp_p2 q cap n a j sp h hn ha hj d hd _ _ (j + 1) i (by omega) (by omega) ?_))
    repeat' (first | refine S.seq ?_ | refine RRun.block ?_)
    refine RRun.loopIn (S.keep [0, 1, 10, 11] rfl (scanDown_p2 q cap n a _ sp h hn ha (by omega) d hd _ _ j hj ?_))
    generalize scanUp (fun x => ltE x d[a]!) d j i = i2 at *
    generalize scanDown (fun x => !ltE x d[a]!) d i2 j = j2 at *
    by_cases e : i2 > j2
    · rw [if_pos e] at hk
      repeat' (first | refine S.nilK ?_ | (refine S.op rfl ?_; first | refine R.mv rfl ?_ | ((first | refine S.gtr rfl rfl ?_ ?_) <;> intro hlt <;> try (exfalso; omega))) | refine S.seq ?_ | refine S.region ?_ | refine S.condT rfl ?_ | refine RRun.exit rfl ?_)
      exact S.keep [0, 1, 11] rfl (hk _ rfl hd (by omega))
    · rw [if_neg e] at hk
      repeat' (first | (refine S.op0 rfl (S.stE rfl rfl rfl (by simp only [List.length_set, Array.length_toList]; omega) ?_)) | refine S.nilK ?_ | (refine S.op rfl ?_; first | refine S.addNN (n := 1) rfl rfl (by omega) ?_ | refine S.subNN (n := 1) rfl rfl (by omega) (by omega) ?_ | refine S.ix rfl rfl (by omega) ?_ | refine S.ldE (by decide) rfl (by omega) ?_ | refine R.mv rfl ?_ | ((first | refine S.gtr rfl rfl ?_ ?_) <;> intro hlt <;> try (exfalso; omega))) | refine S.seq ?_ | refine S.region ?_ | refine S.condF rfl ?_ | refine RRun.skip ?_ | refine RRun.inBlock ?_)
      rw [swp_list]
      exact S.keep [0, 1, 10, 11] rfl (ih (i2 + 1) (j2 - 1) _ (by rw [swp_size]; exact hd) (by omega) (by omega) (by omega) (by omega) hk)
theorem partition_spec (q cap n a e pivot : Nat) (sp : List AV) (h : AHeap) (hn : n ≤ 1000000) (he : e ≤ n) (ha : a < e) (hp1 : a ≤ pivot) (hp2 : pivot < e) (d : Array SE) (hd : d.size = n) :
    ACalls Try.prog 115 [slAt q 0 n cap, i64 a, i64 e, i64 pivot] (HL h q d.toList sp) (fun x h' => ∃ (mid : Nat) (ap : Bool) (d4 : Array SE), Go.Sort.partition ltE d a e pivot = (mid, ap, d4) ∧ x = .tu [i64 mid, bl ap] ∧ h' = HL h q d4.toList sp ∧ d4.size = n) := by
  obtain ⟨c, hc1, hc2⟩ := res115
  refine ACalls.enter Try.func115 hc1 Try.ntmps115 hc2 (Nat.le_of_ble_eq_true rfl) rfl ?_
  have hd1 : (swp d a pivot).size = n := by rw [swp_size]; exact hd
  obtain ⟨px, hx0⟩ : ∃ px, Go.Sort.partition ltE d a e pivot = px := ⟨_, rfl⟩
  have hx := hx0
  unfold Go.Sort.partition at hx
  simp only at hx
  repeat' (first | (refine S.op0 rfl (S.stE rfl rfl rfl (by simp only [List.length_set, Array.length_toList]; omega) ?_)) | refine S.nilK ?_ | (refine S.op rfl ?_; first | refine S.addNN (n := 1) rfl rfl (by omega) ?_ | refine S.subNN (n := 1) rfl rfl (by omega) (by omega) ?_ | refine S.ix rfl rfl (by omega) ?_ | refine S.ldE (by decide) rfl (by omega) ?_ | refine R.mv rfl ?_) | refine S.seq ?_ | refine S.region ?_ | refine RRun.block ?_)
  rw [swp_list]
  generalize swp d a pivot = d1 at hd1 hx ⊢
  have g1 := scanUp_ge (fun x => ltE x d1[a]!) d1 (e - 1) (e + 1) (a + 1) (by omega)
  have g2 := scanDown_le (fun x => !ltE x d1[a]!) d1 (scanUp (fun x => ltE x d1[a]!) d1 (e - 1) (a + 1)) (e - 1)
  refine RRun.loopIn (S.keep [0, 1, 10, 11] rfl (scanUp_p1 q cap n a (e - 1) sp h hn (by omega) (by omega) d1 hd1 _ _ (e + 1) (a + 1) (by omega) (by omega) ?_))
  repeat' (first | refine S.seq ?_ | refine RRun.block ?_)
  refine RRun.loopIn (S.keep [0, 1, 10, 11] rfl (scanDown_p1 q cap n a _ sp h hn (by omega) (by omega) d1 hd1 _ _ (e - 1) (by omega) ?_))
  generalize scanUp (fun x => ltE x d1[a]!) d1 (e - 1) (a + 1) = i2 at *
  generalize scanDown (fun x => !ltE x d1[a]!) d1 i2 (e - 1) = j2 at *
  by_cases hij : i2 > j2
  · rw [if_pos hij] at hx
    repeat' (first | (refine S.op0 rfl (S.stE rfl rfl rfl (by simp only [List.length_set, Array.length_toList]; omega) ?_)) | refine S.nilK ?_ | (refine S.op rfl ?_; first | refine S.ix rfl rfl (by omega) ?_ | refine S.ldE (by decide) rfl (by omega) ?_ | refine R.mv rfl ?_ | ((first | refine S.gtr rfl rfl ?_ ?_) <;> intro hlt <;> try (exfalso; omega))) | refine S.seq ?_ | refine S.region ?_ | refine S.condT rfl ?_)
    rw [swp_list]
    repeat' (fail)
    apply S.ret rr115
    case hx => repeat (first | exact ResAt.nil | apply ResAt.tmp rfl)
    exact ⟨j2, true, _, hx0.trans hx.symm, rfl, rfl, by rw [swp_size]; exact hd1⟩
  · rw [if_neg hij] at hx
    repeat' (first | (refine S.op0 rfl (S.stE rfl rfl rfl (by simp only [List.length_set, Array.length_toList]; omega) ?_)) | refine S.nilK ?_ | (refine S.op rfl ?_; first | refine S.addNN (n := 1) rfl rfl (by omega) ?_ | refine S.subNN (n := 1) rfl rfl (by omega) (by omega) ?_ | refine S.ix rfl rfl (by omega) ?_ | refine S.ldE (by decide) rfl (by omega) ?_ | refine R.mv rfl ?_ | ((first | refine S.gtr rfl rfl ?_ ?_) <;> intro hlt <;> try (exfalso; omega))) | refine S.seq ?_ | refine S.region ?_ | refine S.condF rfl ?_ | refine RRun.skip ?_ | refine RRun.block ?_)
    rw [swp_list]
    refine RRun.loopIn (S.keep [0, 1, 10, 11] rfl (part_loop q cap n a sp h hn (by omega) _ _ (n + 1) (i2 + 1) (j2 - 1) _ (by rw [swp_size]; exact hd1) (by omega) (by omega) (by omega) (by omega) (fun r hr hr1 hr2 => ?_)))
    rw [← hr] at hx
    repeat' (first | (refine S.op0 rfl (S.stE rfl rfl rfl (by simp only [List.length_set, Array.length_toList]; omega) ?_)) | refine S.nilK ?_ | (refine S.op rfl ?_; first | refine S.ix rfl rfl (by omega) ?_ | refine S.ldE (by decide) rfl (by omega) ?_ | refine R.mv rfl ?_) | refine S.seq ?_ | refine S.region ?_)
    rw [swp_list]
    repeat' (fail)
    apply S.ret rr115
    case hx => repeat (first | exact ResAt.nil | apply ResAt.tmp rfl)
    exact ⟨r.1, false, _, hx0.trans hx.symm, rfl, rfl, by rw [swp_size]; exact hr1⟩
end Go.Proofs.Ytnmgamcmjjngcaa

namespace Go.Proofs.Ytnmgamcmjjngcaa
open Go.Av
open Go.Sort (swp PermIn SortedIn Below SWO scanUp scanDown)
def r114l1 : RCode :=
  (.seq (.seq (.region [
    ⟨(some 29), none, .pure, .mv (.tmp 9)⟩,
    ⟨(some 30), none, .pure, .mv (.tmp 10)⟩,
    ⟨(some 31), none, .pure, .bin .leq (.tmp 29) (.tmp 30)⟩,
    ⟨(some 32), none, .pure, .mv (.tmp 31)⟩,
    ⟨(some 33), (some (32, true)), .pure, .mv (.tmp 0)⟩,
    ⟨(some 34), (some (32, true)), .pure, .mv (.tmp 1)⟩,
    ⟨(some 35), (some (32, true)), .pure, .indexAddr 1 (.tmp 33) (.tmp 34)⟩,
    ⟨(some 36), (some (32, true)), .read, .load false 1 (.tmp 35)⟩,
    ⟨(some 37), (some (32, true)), .pure, .mv (.tmp 0)⟩,
    ⟨(some 38), (some (32, true)), .pure, .mv (.tmp 9)⟩,
    ⟨(some 39), (some (32, true)), .pure, .indexAddr 1 (.tmp 37) (.tmp 38)⟩,
    ⟨(some 40), (some (32, true)), .read, .load false 1 (.tmp 39)⟩,
    ⟨(some 41), (some (32, true)), .act, .call 113 [(.tmp 36), (.tmp 40)]⟩,
    ⟨(some 42), (some (32, true)), .pure, .un .not (.tmp 41)⟩,
    ⟨(some 43), none, .pure, .pick (.tmp 32) (.tmp 42) (.const (.bool false))⟩])
  (.cond (.tmp 43)
   .skip
   (.exit 2)))
  (.block 3
   (.region [
     ⟨(some 44), none, .act, .mv (.tmp 9)⟩,
     ⟨(some 45), none, .act, .bin .add (.tmp 44) (.const (.int .i64 1))⟩,
     ⟨(some 9), none, .act, .mv (.tmp 45)⟩])))
def r114l2 : RCode :=
  (.seq (.seq (.region [
    ⟨(some 46), none, .pure, .mv (.tmp 9)⟩,
    ⟨(some 47), none, .pure, .mv (.tmp 10)⟩,
    ⟨(some 48), none, .pure, .bin .leq (.tmp 46) (.tmp 47)⟩,
    ⟨(some 49), none, .pure, .mv (.tmp 48)⟩,
    ⟨(some 50), (some (49, true)), .pure, .mv (.tmp 0)⟩,
    ⟨(some 51), (some (49, true)), .pure, .mv (.tmp 1)⟩,
    ⟨(some 52), (some (49, true)), .pure, .indexAddr 1 (.tmp 50) (.tmp 51)⟩,
    ⟨(some 53), (some (49, true)), .read, .load false 1 (.tmp 52)⟩,
    ⟨(some 54), (some (49, true)), .pure, .mv (.tmp 0)⟩,
    ⟨(some 55), (some (49, true)), .pure, .mv (.tmp 10)⟩,
    ⟨(some 56), (some (49, true)), .pure, .indexAddr 1 (.tmp 54) (.tmp 55)⟩,
    ⟨(some 57), (some (49, true)), .read, .load false 1 (.tmp 56)⟩,
    ⟨(some 58), (some (49, true)), .act, .call 113 [(.tmp 53), (.tmp 57)]⟩,
    ⟨(some 59), none, .pure, .pick (.tmp 49) (.tmp 58) (.const (.bool false))⟩])
  (.cond (.tmp 59)
   .skip
   (.exit 4)))
  (.block 5
   (.region [
     ⟨(some 60), none, .act, .mv (.tmp 10)⟩,
     ⟨(some 61), none, .act, .bin .sub (.tmp 60) (.const (.int .i64 1))⟩,
     ⟨(some 10), none, .act, .mv (.tmp 61)⟩])))
def r114l0 : RCode :=
  (.block 1
   (.seq (.block 2
    (.loop r114l1))
   (.seq (.block 4
    (.loop r114l2))
   (.seq (.seq (.region [
     ⟨(some 62), none, .act, .mv (.tmp 9)⟩,
     ⟨(some 63), none, .act, .mv (.tmp 10)⟩,
     ⟨(some 64), none, .act, .bin .gtr (.tmp 62) (.tmp 63)⟩])
   (.cond (.tmp 64)
    (.exit 0)
    .skip))
   (.seq (.region [
     ⟨(some 65), none, .pure, .mv (.tmp 0)⟩,
     ⟨(some 66), none, .pure, .mv (.tmp 9)⟩,
     ⟨(some 67), none, .pure, .mv (.tmp 0)⟩,
     ⟨(some 68), none, .pure, .mv (.tmp 10)⟩,
     ⟨(some 69), none, .pure, .mv (.tmp 0)⟩,
     ⟨(some 70), none, .pure, .mv (.tmp 10)⟩,
     ⟨(some 71), none, .pure, .indexAddr 1 (.tmp 69) (.tmp 70)⟩,
     ⟨(some 72), none, .read, .load false 1 (.tmp 71)⟩,
     ⟨(some 73), none, .pure, .mv (.tmp 0)⟩,
     ⟨(some 74), none, .pure, .mv (.tmp 9)⟩,
     ⟨(some 75), none, .pure, .indexAddr 1 (.tmp 73) (.tmp 74)⟩,
     ⟨(some 76), none, .read, .load false 1 (.tmp 75)⟩,
     ⟨(some 77), none, .pure, .indexAddr 1 (.tmp 65) (.tmp 66)⟩,
     ⟨none, none, .act, .store 1 (.tmp 77) (.tmp 72)⟩,
     ⟨(some 78), none, .pure, .indexAddr 1 (.tmp 67) (.tmp 68)⟩,
     ⟨none, none, .act, .store 1 (.tmp 78) (.tmp 76)⟩])
   (.seq (.region [
     ⟨(some 79), none, .act, .mv (.tmp 9)⟩,
     ⟨(some 80), none, .act, .bin .add (.tmp 79) (.const (.int .i64 1))⟩,
     ⟨(some 9), none, .act, .mv (.tmp 80)⟩])
   (.region [
     ⟨(some 81), none, .act, .mv (.tmp 10)⟩,
     ⟨(some 82), none, .act, .bin .sub (.tmp 81) (.const (.int .i64 1))⟩,
     ⟨(some 10), none, .act, .mv (.tmp 82)⟩])))))))
def r114 : RCode :=
  (.seq (.region [
    ⟨(some 8), none, .act, .mv (.const (.int .i64 0))⟩])
  (.seq (.region [
    ⟨(some 11), none, .pure, .mv (.tmp 0)⟩,
    ⟨(some 12), none, .pure, .mv (.tmp 1)⟩,
    ⟨(some 13), none, .pure, .mv (.tmp 0)⟩,
    ⟨(some 14), none, .pure, .mv (.tmp 3)⟩,
    ⟨(some 15), none, .pure, .mv (.tmp 0)⟩,
    ⟨(some 16), none, .pure, .mv (.tmp 3)⟩,
    ⟨(some 17), none, .pure, .indexAddr 1 (.tmp 15) (.tmp 16)⟩,
    ⟨(some 18), none, .read, .load false 1 (.tmp 17)⟩,
    ⟨(some 19), none, .pure, .mv (.tmp 0)⟩,
    ⟨(some 20), none, .pure, .mv (.tmp 1)⟩,
    ⟨(some 21), none, .pure, .indexAddr 1 (.tmp 19) (.tmp 20)⟩,
    ⟨(some 22), none, .read, .load false 1 (.tmp 21)⟩,
    ⟨(some 23), none, .pure, .indexAddr 1 (.tmp 11) (.tmp 12)⟩,
    ⟨none, none, .act, .store 1 (.tmp 23) (.tmp 18)⟩,
    ⟨(some 24), none, .pure, .indexAddr 1 (.tmp 13) (.tmp 14)⟩,
    ⟨none, none, .act, .store 1 (.tmp 24) (.tmp 22)⟩])
  (.seq (.region [
    ⟨(some 25), none, .act, .mv (.tmp 1)⟩,
    ⟨(some 26), none, .act, .bin .add (.tmp 25) (.const (.int .i64 1))⟩,
    ⟨(some 27), none, .act, .mv (.tmp 2)⟩,
    ⟨(some 28), none, .act, .bin .sub (.tmp 27) (.const (.int .i64 1))⟩,
    ⟨(some 9), none, .act, .mv (.tmp 26)⟩,
    ⟨(some 10), none, .act, .mv (.tmp 28)⟩])
  (.seq (.block 0
   (.loop r114l0))
  (.seq (.region [
    ⟨(some 83), none, .act, .mv (.tmp 9)⟩,
    ⟨(some 8), none, .act, .mv (.tmp 83)⟩])
  .ret)))))
theorem res114 : ∃ c, Try.f114.body = some c ∧ resCode Try.prog 84 c = some r114 := ⟨_, rfl, by kernel_rfl⟩
theorem rr114 : resRes Try.prog Try.f114.results.toList = some [.tmp 8] := by kernel_rfl
theorem scanUp_e (q cap n a j : Nat) (sp : List AV) (h : AHeap) (hn : n ≤ 1000000) (ha : a < n) (hj : j < n) (d : Array SE) (hd : d.size = n) (k : List RT) (Q : AV → AHeap → Prop) : ∀ (f i : Nat), j + 1 ≤ i + f → i ≤ n →
    RRun Try.prog Try.f114 84 k (Env.get [(0, slAt q 0 n cap), (1, i64 a), (9, i64 (scanUp (fun x => !ltE d[a]! x) d j i : Nat)), (10, i64 j)]) (HL h q d.toList sp) Q →
    RRun Try.prog Try.f114 84 (.inLoop r114l1 :: .inBlock 2 :: k) (Env.get [(0, slAt q 0 n cap), (1, i64 a), (9, i64 i), (10, i64 j)]) (HL h q d.toList sp) Q := by
  intro f
  induction f with
  | zero =>
    intro i hf hin hk
    rw [scanUp_stop (by omega)] at hk
    refine RRun.inLoop ?_
    repeat' (first | refine S.nilK ?_ | (refine S.op rfl ?_; first | refine R.mv rfl ?_ | refine R.pickF rfl rfl ?_ | ((first | refine S.leq rfl rfl ?_ ?_) <;> intro hlt <;> try (exfalso; omega))) | refine S.skip rfl ?_ | refine S.seq ?_ | refine S.region ?_ | refine S.condF rfl ?_ | refine RRun.exit rfl ?_)
    exact S.keep [0, 1, 9, 10] rfl hk
  | succ f ih =>
    intro i hf hin hk
    by_cases hij : i ≤ j
    · cases hl : ltE d[a]! d[i]! with
      | false =>
        rw [scanUp_go hij (by simp [hl])] at hk
        refine RRun.inLoop ?_
        repeat' (first | refine S.nilK ?_ | (refine S.op rfl ?_; first | refine S.addNN (n := 1) rfl rfl (by omega) ?_ | refine S.ix rfl rfl (by omega) ?_ | refine S.ldE (by decide) rfl (by omega) ?_ | refine callS rfl rfl (less_is hl _) ?_ | refine R.mv rfl ?_ | refine R.pickT rfl rfl ?_ | refine R.not rfl ?_ | ((first | refine S.leq rfl rfl ?_ ?_) <;> intro hlt <;> try (exfalso; omega))) | refine S.seq ?_ | refine S.region ?_ | refine S.condT rfl ?_ | refine RRun.skip ?_ | refine RRun.block ?_ | refine RRun.inBlock ?_)
        exact S.keep [0, 1, 9, 10] rfl (ih (i + 1) (by omega) (by omega) hk)
      | true =>
        rw [scanUp_stop (by simp [hl])] at hk
        refine RRun.inLoop ?_
        repeat' (first | refine S.nilK ?_ | (refine S.op rfl ?_; first | refine S.ix rfl rfl (by omega) ?_ | refine S.ldE (by decide) rfl (by omega) ?_ | refine callS rfl rfl (less_is hl _) ?_ | refine R.mv rfl ?_ | refine R.pickT rfl rfl ?_ | refine R.not rfl ?_ | ((first | refine S.leq rfl rfl ?_ ?_) <;> intro hlt <;> try (exfalso; omega))) | refine S.seq ?_ | refine S.region ?_ | refine S.condF rfl ?_ | refine RRun.exit rfl ?_)
        exact S.keep [0, 1, 9, 10] rfl hk
    · rw [scanUp_stop (by omega)] at hk
      refine RRun.inLoop ?_
      repeat' (first | refine S.nilK ?_ | (refine S.op rfl ?_; first | refine R.mv rfl ?_ | refine R.pickF rfl rfl ?_ | ((first | refine S.leq rfl rfl ?_ ?_) <;> intro hlt <;> try (exfalso; omega))) | refine S.skip rfl ?_ | refine S.seq ?_ | refine S.region ?_ | refine S.condF rfl ?_ | refine RRun.exit rfl ?_)
      exact S.keep [0, 1, 9, 10] rfl hk
theorem scanDown_e (q cap n a i : Nat) (sp : List AV) (h : AHeap) (hn : n ≤ 1000000) (ha : a < n) (hi : 1 ≤ i) (d : Array SE) (hd : d.size = n) (k : List RT) (Q : AV → AHeap → Prop) : ∀ (j : Nat), j < n →
    RRun Try.prog Try.f114 84 k (Env.get [(0, slAt q 0 n cap), (1, i64 a), (9, i64 i), (10, i64 (scanDown (fun x => ltE d[a]! x) d i j : Nat))]) (HL h q d.toList sp) Q →
    RRun Try.prog Try.f114 84 (.inLoop r114l2 :: .inBlock 4 :: k) (Env.get [(0, slAt q 0 n cap), (1, i64 a), (9, i64 i), (10, i64 j)]) (HL h q d.toList sp) Q := by
  have stop : ∀ (j : Nat), ¬ i ≤ j → RRun Try.prog Try.f114 84 k (Env.get [(0, slAt q 0 n cap), (1, i64 a), (9, i64 i), (10, i64 (scanDown (fun x => ltE d[a]! x) d i j : Nat))]) (HL h q d.toList sp) Q →
    RRun Try.prog Try.f114 84 (.inLoop r114l2 :: .inBlock 4 :: k) (Env.get [(0, slAt q 0 n cap), (1, i64 a), (9, i64 i), (10, i64 j)]) (HL h q d.toList sp) Q := by
    intro j hij hk
    rw [scanDown_stop (by omega)] at hk
    refine RRun.inLoop ?_
    repeat' (first | refine S.nilK ?_ | (refine S.op rfl ?_; first | refine R.mv rfl ?_ | refine R.pickF rfl rfl ?_ | ((first | refine S.leq rfl rfl ?_ ?_) <;> intro hlt <;> try (exfalso; omega))) | refine S.skip rfl ?_ | refine S.seq ?_ | refine S.region ?_ | refine S.condF rfl ?_ | refine RRun.exit rfl ?_)
    exact S.keep [0, 1, 9, 10] rfl hk
  intro j
  induction j with
  | zero => intro hj hk; exact stop 0 (by omega) hk
  | succ j ih =>
    intro hj hk
    by_cases hij : i ≤ j + 1
    · cases hl : ltE d[a]! d[j + 1]! with
      | true =>
        rw [scanDown_go hij (by simp [hl])] at hk
        refine RRun.inLoop ?_
        repeat' (first | refine S.nilK ?_ | (refine S.op rfl ?_; first | refine S.subNN (n := 1) rfl rfl (by omega) (by omega) ?_ | refine S.ix rfl rfl (by omega) ?_ | refine S.ldE (by decide) rfl (by omega) ?_ | refine callS rfl rfl (less_is hl _) ?_ | refine R.mv rfl ?_ | refine R.pickT rfl rfl ?_ | ((first | refine S.leq rfl rfl ?_ ?_) <;> intro hlt <;> try (exfalso; omega))) | refine S.seq ?_ | refine S.region ?_ | refine S.condT rfl ?_ | refine RRun.skip ?_ | refine RRun.block ?_ | refine RRun.inBlock ?_)
        exact S.keep [0, 1, 9, 10] rfl (ih (by omega) hk)
      | false =>
        rw [scanDown_stop (by simp [hl])] at hk
        refine RRun.inLoop ?_
        repeat' (first | refine S.nilK ?_ | (refine S.op rfl ?_; first | refine S.ix rfl rfl (by omega) ?_ | refine S.ldE (by decide) rfl (by omega) ?_ | refine callS rfl rfl (less_is hl _) ?_ | refine R.mv rfl ?_ | refine R.pickT rfl rfl ?_ | ((first | refine S.leq rfl rfl ?_ ?_) <;> intro hlt <;> try (exfalso; omega))) | refine S.seq ?_ | refine S.region ?_ | refine S.condF rfl ?_ | refine RRun.exit rfl ?_)
        exact S.keep [0, 1, 9, 10] rfl hk
    · exact stop (j + 1) hij hk
theorem partEq_loop (q cap n a : Nat) (sp : List AV) (h : AHeap) (hn : n ≤ 1000000) (ha : a < n) (k : List RT) (Q : AV → AHeap → Prop) : ∀ (f i j : Nat) (d : Array SE), d.size = n → j + 1 ≤ i + f → a < i → i ≤ n → j < n →
    (∀ r, r = Go.Sort.partEqLoop ltE a i j d → r.2.size = n → RRun Try.prog Try.f114 84 k (Env.get [(9, i64 (r.1 : Nat))]) (HL h q r.2.toList sp) Q) →
    RRun Try.prog Try.f114 84 (.inLoop r114l0 :: .inBlock 0 :: k) (Env.get [(0, slAt q 0 n cap), (1, i64 a), (9, i64 i), (10, i64 j)]) (HL h q d.toList sp) Q := by
  intro f
  induction f with
  | zero =>
    intro i j d hd hf hai hin hj hk
    rw [Go.Sort.partEqLoop_eq] at hk
    have g1 := scanUp_ge (fun x => !ltE d[a]! x) d j (j + 1) i (by omega)
    have g2 := scanDown_le (fun x => ltE d[a]! x) d (scanUp (fun x => !ltE d[a]! x) d j i) j
    have e : scanUp (fun x => !ltE d[a]! x) d j i > scanDown (fun x => ltE d[a]! x) d (scanUp (fun x => !ltE d[a]! x) d j i) j := by omega
    rw [if_pos e] at hk
    refine RRun.inLoop ?_
    unfold r114l0
    repeat' (first | refine S.seq ?_ | refine RRun.block ?_)
    refine RRun.loopIn (S.keep [0, 1, 9, 10] rfl (scanUp_e q cap n a j sp h hn ha hj d hd _ _ (j + 1) i (by omega) (by omega) ?_))
    repeat' (first | refine S.seq ?_ | refine RRun.block ?_)
    refine RRun.loopIn (S.keep [0, 1, 9, 10] rfl (scanDown_e q cap n a _ sp h hn ha (by omega) d hd _ _ j hj ?_))
    generalize scanUp (fun x => !ltE d[a]! x) d j i = i2 at *
    generalize scanDown (fun x => ltE d[a]! x) d i2 j = j2 at *
    repeat' (first | refine S.nilK ?_ | (refine S.op rfl ?_; first | refine R.mv rfl ?_ | ((first | refine S.gtr rfl rfl ?_ ?_) <;> intro hlt <;> try (exfalso; omega))) | refine S.seq ?_ | refine S.region ?_ | refine S.condT rfl ?_ | refine RRun.exit rfl ?_)
    exact S.keep [9] rfl (hk _ rfl hd)
  | succ f ih =>
    intro i j d hd hf hai hin hj hk
    rw [Go.Sort.partEqLoop_eq] at hk
    have g1 := scanUp_ge (fun x => !ltE d[a]! x) d j (j + 1) i (by omega)
    have g2 := scanDown_le (fun x => ltE d[a]! x) d (scanUp (fun x => !ltE d[a]! x) d j i) j
    refine RRun.inLoop ?_
    unfold r114l0
    repeat' (first | refine S.seq ?_ | refine RRun.block ?_)
    refine RRun.loopIn (S.keep [0, 1, 9, 10] rfl (scanUp_e q cap n a j sp h hn ha hj d hd _ _ (j + 1) i (by omega) (by omega) ?_))
    repeat' (first | refine S.seq ?_ | refine RRun.block ?_)
    refine RRun.loopIn (S.keep [0, 1, 9, 10] rfl (scanDown_e q cap n a _ sp h hn ha (by omega) d hd _ _ j hj ?_))
    generalize scanUp (fun x => !ltE d[a]! x) d j i = i2 at *
    generalize scanDown (fun x => ltE d[a]! x) d i2 j = j2 at *
    by_cases e : i2 > j2
    · rw [if_pos e] at hk
      repeat' (first | refine S.nilK ?_ | (refine S.op rfl ?_; first | refine R.mv rfl ?_ | ((first | refine S.gtr rfl rfl ?_ ?_) <;> intro hlt <;> try (exfalso; omega))) | refine S.seq ?_ | refine S.region ?_ | refine S.condT rfl ?_ | refine RRun.exit rfl ?_)
      exact S.keep [9] rfl (hk _ rfl hd)
    · rw [if_neg e] at hk
      repeat' (first | (refine S.op0 rfl (S.stE rfl rfl rfl (by simp only [List.length_set, Array.length_toList]; omega) ?_)) | refine S.nilK ?_ | (refine S.op rfl ?_; first | refine S.addNN (n := 1) rfl rfl (by omega) ?_ | refine S.subNN (n := 1) rfl rfl (by omega) (by omega) ?_ | refine S.ix rfl rfl (by omega) ?_ | refine S.ldE (by decide) rfl (by omega) ?_ | refine R.mv rfl ?_ | ((first | refine S.gtr rfl rfl ?_ ?_) <;> intro hlt <;> try (exfalso; omega))) | refine S.seq ?_ | refine S.region ?_ | refine S.condF rfl ?_ | refine RRun.skip ?_ | refine RRun.inBlock ?_)
      rw [swp_list]
      exact S.keep [0, 1, 9, 10] rfl (ih (i2 + 1) (j2 - 1) _ (by rw [swp_size]; exact hd) (by omega) (by omega) (by omega) (by omega) hk)
theorem partitionEqual_spec (q cap n a e pivot : Nat) (sp : List AV) (h : AHeap) (hn : n ≤ 1000000) (he : e ≤ n) (ha : a < e) (hp1 : a ≤ pivot) (hp2 : pivot < e) (d : Array SE) (hd : d.size = n) :
    ACalls Try.prog 114 [slAt q 0 n cap, i64 a, i64 e, i64 pivot] (HL h q d.toList sp) (fun x h' => ∃ (mid : Nat) (d4 : Array SE), Go.Sort.partitionEqual ltE d a e pivot = (mid, d4) ∧ x = i64 mid ∧ h' = HL h q d4.toList sp ∧ d4.size = n) := by
  obtain ⟨c, hc1, hc2⟩ := res114
  refine ACalls.enter Try.func114 hc1 Try.ntmps114 hc2 (Nat.le_of_ble_eq_true rfl) rfl ?_
  have hd1 : (swp d a pivot).size = n := by rw [swp_size]; exact hd
  repeat' (first | (refine S.op0 rfl (S.stE rfl rfl rfl (by simp only [List.length_set, Array.length_toList]; omega) ?_)) | refine S.nilK ?_ | (refine S.op rfl ?_; first | refine S.addNN (n := 1) rfl rfl (by omega) ?_ | refine S.subNN (n := 1) rfl rfl (by omega) (by omega) ?_ | refine S.ix rfl rfl (by omega) ?_ | refine S.ldE (by decide) rfl (by omega) ?_ | refine R.mv rfl ?_) | refine S.seq ?_ | refine S.region ?_ | refine RRun.block ?_)
  rw [swp_list]
  refine RRun.loopIn (S.keep [0, 1, 9, 10] rfl (partEq_loop q cap n a sp h hn (by omega) _ _ (n + 1) (a + 1) (e - 1) _ hd1 (by omega) (by omega) (by omega) (by omega) (fun r hr hr1 => ?_)))
  repeat' (first | refine S.nilK ?_ | (refine S.op rfl ?_; first | refine R.mv rfl ?_) | refine S.seq ?_ | refine S.region ?_)
  apply S.ret rr114
  case hx => repeat (first | exact ResAt.nil | apply ResAt.tmp rfl)
  exact ⟨r.1, r.2, hr.symm, rfl, rfl, hr1⟩
def r112l1 : RCode :=
  (.seq (.seq (.region [
    ⟨(some 17), none, .pure, .mv (.tmp 7)⟩,
    ⟨(some 18), none, .pure, .mv (.tmp 2)⟩,
    ⟨(some 19), none, .pure, .bin .lss (.tmp 17) (.tmp 18)⟩,
    ⟨(some 20), none, .pure, .mv (.tmp 19)⟩,
    ⟨(some 21), (some (20, true)), .pure, .mv (.tmp 0)⟩,
    ⟨(some 22), (some (20, true)), .pure, .mv (.tmp 7)⟩,
    ⟨(some 23), (some (20, true)), .pure, .indexAddr 1 (.tmp 21) (.tmp 22)⟩,
    ⟨(some 24), (some (20, true)), .read, .load false 1 (.tmp 23)⟩,
    ⟨(some 25), (some (20, true)), .pure, .mv (.tmp 0)⟩,
    ⟨(some 26), (some (20, true)), .pure, .mv (.tmp 7)⟩,
    ⟨(some 27), (some (20, true)), .pure, .bin .sub (.tmp 26) (.const (.int .i64 1))⟩,
    ⟨(some 28), (some (20, true)), .pure, .indexAddr 1 (.tmp 25) (.tmp 27)⟩,
    ⟨(some 29), (some (20, true)), .read, .load false 1 (.tmp 28)⟩,
    ⟨(some 30), (some (20, true)), .act, .call 113 [(.tmp 24), (.tmp 29)]⟩,
    ⟨(some 31), (some (20, true)), .pure, .un .not (.tmp 30)⟩,
    ⟨(some 32), none, .pure, .pick (.tmp 20) (.tmp 31) (.const (.bool false))⟩])
  (.cond (.tmp 32)
   .skip
   (.exit 2)))
  (.block 3
   (.region [
     ⟨(some 33), none, .act, .mv (.tmp 7)⟩,
     ⟨(some 34), none, .act, .bin .add (.tmp 33) (.const (.int .i64 1))⟩,
     ⟨(some 7), none, .act, .mv (.tmp 34)⟩])))
def r112l2 : RCode :=
  (.seq (.seq (.region [
    ⟨(some 64), none, .act, .mv (.tmp 9)⟩,
    ⟨(some 65), none, .act, .bin .geq (.tmp 64) (.const (.int .i64 1))⟩])
  (.cond (.tmp 65)
   .skip
   (.exit 4)))
  (.seq (.block 5
   (.seq (.seq (.region [
     ⟨(some 68), none, .pure, .mv (.tmp 0)⟩,
     ⟨(some 69), none, .pure, .mv (.tmp 9)⟩,
     ⟨(some 70), none, .pure, .indexAddr 1 (.tmp 68) (.tmp 69)⟩,
     ⟨(some 71), none, .read, .load false 1 (.tmp 70)⟩,
     ⟨(some 72), none, .pure, .mv (.tmp 0)⟩,
     ⟨(some 73), none, .pure, .mv (.tmp 9)⟩,
     ⟨(some 74), none, .pure, .bin .sub (.tmp 73) (.const (.int .i64 1))⟩,
     ⟨(some 75), none, .pure, .indexAddr 1 (.tmp 72) (.tmp 74)⟩,
     ⟨(some 76), none, .read, .load false 1 (.tmp 75)⟩,
     ⟨(some 77), none, .act, .call 113 [(.tmp 71), (.tmp 76)]⟩,
     ⟨(some 78), none, .pure, .un .not (.tmp 77)⟩])
   (.cond (.tmp 78)
    (.exit 4)
    .skip))
   (.region [
     ⟨(some 79), none, .pure, .mv (.tmp 0)⟩,
     ⟨(some 80), none, .pure, .mv (.tmp 9)⟩,
     ⟨(some 81), none, .pure, .mv (.tmp 0)⟩,
     ⟨(some 82), none, .pure, .mv (.tmp 9)⟩,
     ⟨(some 83), none, .pure, .bin .sub (.tmp 82) (.const (.int .i64 1))⟩,
     ⟨(some 84), none, .pure, .mv (.tmp 0)⟩,
     ⟨(some 85), none, .pure, .mv (.tmp 9)⟩,
     ⟨(some 86), none, .pure, .bin .sub (.tmp 85) (.const (.int .i64 1))⟩,
     ⟨(some 87), none, .pure, .indexAddr 1 (.tmp 84) (.tmp 86)⟩,
     ⟨(some 88), none, .read, .load false 1 (.tmp 87)⟩,
     ⟨(some 89), none, .pure, .mv (.tmp 0)⟩,
     ⟨(some 90), none, .pure, .mv (.tmp 9)⟩,
     ⟨(some 91), none, .pure, .indexAddr 1 (.tmp 89) (.tmp 90)⟩,
     ⟨(some 92), none, .read, .load false 1 (.tmp 91)⟩,
     ⟨(some 93), none, .pure, .indexAddr 1 (.tmp 79) (.tmp 80)⟩,
     ⟨none, none, .act, .store 1 (.tmp 93) (.tmp 88)⟩,
     ⟨(some 94), none, .pure, .indexAddr 1 (.tmp 81) (.tmp 83)⟩,
     ⟨none, none, .act, .store 1 (.tmp 94) (.tmp 92)⟩])))
  (.region [
    ⟨(some 66), none, .act, .mv (.tmp 9)⟩,
    ⟨(some 67), none, .act, .bin .sub (.tmp 66) (.const (.int .i64 1))⟩,
    ⟨(some 9), none, .act, .mv (.tmp 67)⟩])))
def r112l3 : RCode :=
  (.seq (.seq (.region [
    ⟨(some 101), none, .act, .mv (.tmp 10)⟩,
    ⟨(some 102), none, .act, .mv (.tmp 2)⟩,
    ⟨(some 103), none, .act, .bin .lss (.tmp 101) (.tmp 102)⟩])
  (.cond (.tmp 103)
   .skip
   (.exit 6)))
  (.seq (.block 7
   (.seq (.seq (.region [
     ⟨(some 106), none, .pure, .mv (.tmp 0)⟩,
     ⟨(some 107), none, .pure, .mv (.tmp 10)⟩,
     ⟨(some 108), none, .pure, .indexAddr 1 (.tmp 106) (.tmp 107)⟩,
     ⟨(some 109), none, .read, .load false 1 (.tmp 108)⟩,
     ⟨(some 110), none, .pure, .mv (.tmp 0)⟩,
     ⟨(some 111), none, .pure, .mv (.tmp 10)⟩,
     ⟨(some 112), none, .pure, .bin .sub (.tmp 111) (.const (.int .i64 1))⟩,
     ⟨(some 113), none, .pure, .indexAddr 1 (.tmp 110) (.tmp 112)⟩,
     ⟨(some 114), none, .read, .load false 1 (.tmp 113)⟩,
     ⟨(some 115), none, .act, .call 113 [(.tmp 109), (.tmp 114)]⟩,
     ⟨(some 116), none, .pure, .un .not (.tmp 115)⟩])
   (.cond (.tmp 116)
    (.exit 6)
    .skip))
   (.region [
     ⟨(some 117), none, .pure, .mv (.tmp 0)⟩,
     ⟨(some 118), none, .pure, .mv (.tmp 10)⟩,
     ⟨(some 119), none, .pure, .mv (.tmp 0)⟩,
     ⟨(some 120), none, .pure, .mv (.tmp 10)⟩,
     ⟨(some 121), none, .pure, .bin .sub (.tmp 120) (.const (.int .i64 1))⟩,
     ⟨(some 122), none, .pure, .mv (.tmp 0)⟩,
     ⟨(some 123), none, .pure, .mv (.tmp 10)⟩,
     ⟨(some 124), none, .pure, .bin .sub (.tmp 123) (.const (.int .i64 1))⟩,
     ⟨(some 125), none, .pure, .indexAddr 1 (.tmp 122) (.tmp 124)⟩,
     ⟨(some 126), none, .read, .load false 1 (.tmp 125)⟩,
     ⟨(some 127), none, .pure, .mv (.tmp 0)⟩,
     ⟨(some 128), none, .pure, .mv (.tmp 10)⟩,
     ⟨(some 129), none, .pure, .indexAddr 1 (.tmp 127) (.tmp 128)⟩,
     ⟨(some 130), none, .read, .load false 1 (.tmp 129)⟩,
     ⟨(some 131), none, .pure, .indexAddr 1 (.tmp 117) (.tmp 118)⟩,
     ⟨none, none, .act, .store 1 (.tmp 131) (.tmp 126)⟩,
     ⟨(some 132), none, .pure, .indexAddr 1 (.tmp 119) (.tmp 121)⟩,
     ⟨none, none, .act, .store 1 (.tmp 132) (.tmp 130)⟩])))
  (.region [
    ⟨(some 104), none, .act, .mv (.tmp 10)⟩,
    ⟨(some 105), none, .act, .bin .add (.tmp 104) (.const (.int .i64 1))⟩,
    ⟨(some 10), none, .act, .mv (.tmp 105)⟩])))
def r112l0 : RCode :=
  (.seq (.seq (.region [
    ⟨(some 13), none, .act, .mv (.tmp 8)⟩,
    ⟨(some 14), none, .act, .bin .lss (.tmp 13) (.const (.int .i64 5))⟩])
  (.cond (.tmp 14)
   .skip
   (.exit 0)))
  (.seq (.block 1
   (.seq (.block 2
    (.loop r112l1))
   (.seq (.seq (.region [
     ⟨(some 35), none, .act, .mv (.tmp 7)⟩,
     ⟨(some 36), none, .act, .mv (.tmp 2)⟩,
     ⟨(some 37), none, .act, .eq false .int (.tmp 35) (.tmp 36)⟩])
   (.cond (.tmp 37)
    (.seq (.region [
      ⟨(some 6), none, .act, .mv (.const (.bool true))⟩])
    .ret)
    .skip))
   (.seq (.seq (.region [
     ⟨(some 38), none, .act, .mv (.tmp 2)⟩,
     ⟨(some 39), none, .act, .mv (.tmp 1)⟩,
     ⟨(some 40), none, .act, .bin .sub (.tmp 38) (.tmp 39)⟩,
     ⟨(some 41), none, .act, .bin .lss (.tmp 40) (.const (.int .i64 50))⟩])
   (.cond (.tmp 41)
    (.seq (.region [
      ⟨(some 6), none, .act, .mv (.const (.bool false))⟩])
    .ret)
    .skip))
   (.seq (.region [
     ⟨(some 42), none, .pure, .mv (.tmp 0)⟩,
     ⟨(some 43), none, .pure, .mv (.tmp 7)⟩,
     ⟨(some 44), none, .pure, .mv (.tmp 0)⟩,
     ⟨(some 45), none, .pure, .mv (.tmp 7)⟩,
     ⟨(some 46), none, .pure, .bin .sub (.tmp 45) (.const (.int .i64 1))⟩,
     ⟨(some 47), none, .pure, .mv (.tmp 0)⟩,
     ⟨(some 48), none, .pure, .mv (.tmp 7)⟩,
     ⟨(some 49), none, .pure, .bin .sub (.tmp 48) (.const (.int .i64 1))⟩,
     ⟨(some 50), none, .pure, .indexAddr 1 (.tmp 47) (.tmp 49)⟩,
     ⟨(some 51), none, .read, .load false 1 (.tmp 50)⟩,
     ⟨(some 52), none, .pure, .mv (.tmp 0)⟩,
     ⟨(some 53), none, .pure, .mv (.tmp 7)⟩,
     ⟨(some 54), none, .pure, .indexAddr 1 (.tmp 52) (.tmp 53)⟩,
     ⟨(some 55), none, .read, .load false 1 (.tmp 54)⟩,
     ⟨(some 56), none, .pure, .indexAddr 1 (.tmp 42) (.tmp 43)⟩,
     ⟨none, none, .act, .store 1 (.tmp 56) (.tmp 51)⟩,
     ⟨(some 57), none, .pure, .indexAddr 1 (.tmp 44) (.tmp 46)⟩,
     ⟨none, none, .act, .store 1 (.tmp 57) (.tmp 55)⟩])
   (.seq (.seq (.region [
     ⟨(some 58), none, .act, .mv (.tmp 7)⟩,
     ⟨(some 59), none, .act, .mv (.tmp 1)⟩,
     ⟨(some 60), none, .act, .bin .sub (.tmp 58) (.tmp 59)⟩,
     ⟨(some 61), none, .act, .bin .geq (.tmp 60) (.const (.int .i64 2))⟩])
   (.cond (.tmp 61)
    (.seq (.region [
      ⟨(some 62), none, .act, .mv (.tmp 7)⟩,
      ⟨(some 63), none, .act, .bin .sub (.tmp 62) (.const (.int .i64 1))⟩,
      ⟨(some 9), none, .act, .mv (.tmp 63)⟩])
    (.block 4
     (.loop r112l2)))
    .skip))
   (.seq (.region [
     ⟨(some 95), none, .act, .mv (.tmp 2)⟩,
     ⟨(some 96), none, .act, .mv (.tmp 7)⟩,
     ⟨(some 97), none, .act, .bin .sub (.tmp 95) (.tmp 96)⟩,
     ⟨(some 98), none, .act, .bin .geq (.tmp 97) (.const (.int .i64 2))⟩])
   (.cond (.tmp 98)
    (.seq (.region [
      ⟨(some 99), none, .act, .mv (.tmp 7)⟩,
      ⟨(some 100), none, .act, .bin .add (.tmp 99) (.const (.int .i64 1))⟩,
      ⟨(some 10), none, .act, .mv (.tmp 100)⟩])
    (.block 6
     (.loop r112l3)))
    .skip))))))))
  (.region [
    ⟨(some 15), none, .act, .mv (.tmp 8)⟩,
    ⟨(some 16), none, .act, .bin .add (.tmp 15) (.const (.int .i64 1))⟩,
    ⟨(some 8), none, .act, .mv (.tmp 16)⟩])))
def r112 : RCode :=
  (.seq (.region [
    ⟨(some 6), none, .act, .mv (.const (.bool false))⟩])
  (.seq (.region [
    ⟨(some 11), none, .act, .mv (.tmp 1)⟩,
    ⟨(some 12), none, .act, .bin .add (.tmp 11) (.const (.int .i64 1))⟩,
    ⟨(some 7), none, .act, .mv (.tmp 12)⟩])
  (.seq (.seq (.region [
    ⟨(some 8), none, .act, .mv (.const (.int .i64 0))⟩])
  (.block 0
   (.loop r112l0)))
  (.seq (.region [
    ⟨(some 6), none, .act, .mv (.const (.bool false))⟩])
  .ret))))
theorem res112 : ∃ c, Try.f112.body = some c ∧ resCode Try.prog 133 c = some r112 := ⟨_, rfl, by kernel_rfl⟩
theorem rr112 : resRes Try.prog Try.f112.results.toList = some [.tmp 6] := by kernel_rfl
theorem scanSorted_stop {d : Array SE} {e i : Nat} (h : ¬ (i < e ∧ ltE d[i]! d[i - 1]! = false)) : Go.Sort.scanSorted ltE d e i = i := by
  unfold Go.Sort.scanSorted
  rw [if_neg (by simpa using h)]
theorem scanSorted_go {d : Array SE} {e i : Nat} (h1 : i < e) (h2 : ltE d[i]! d[i - 1]! = false) : Go.Sort.scanSorted ltE d e i = Go.Sort.scanSorted ltE d e (i + 1) := by
  conv => lhs; unfold Go.Sort.scanSorted
  rw [if_pos (by simp [h1, h2])]
theorem scanSorted_loop (q cap n a e : Nat) (sp : List AV) (h : AHeap) (hn : n ≤ 1000000) (he : e ≤ n) (d : Array SE) (hd : d.size = n) (k : List RT) (Q : AV → AHeap → Prop) (x8 : AV) : ∀ (f i : Nat), e ≤ i + f → 1 ≤ i → i ≤ n + 1 →
    RRun Try.prog Try.f112 133 k (Env.get [(0, slAt q 0 n cap), (1, i64 a), (2, i64 e), (7, i64 (Go.Sort.scanSorted ltE d e i : Nat)), (8, x8)]) (HL h q d.toList sp) Q →
    RRun Try.prog Try.f112 133 (.inLoop r112l1 :: .inBlock 2 :: k) (Env.get [(0, slAt q 0 n cap), (1, i64 a), (2, i64 e), (7, i64 i), (8, x8)]) (HL h q d.toList sp) Q := by
  intro f
  induction f with
  | zero =>
    intro i hf h1 h2 hk
    rw [scanSorted_stop (by omega)] at hk
    refine RRun.inLoop ?_
    repeat' (first | refine S.nilK ?_ | (refine S.op rfl ?_; first | refine R.mv rfl ?_ | refine R.pickF rfl rfl ?_ | ((first | refine S.lss rfl rfl ?_ ?_) <;> intro hlt <;> try (exfalso; omega))) | refine S.skip rfl ?_ | refine S.seq ?_ | refine S.region ?_ | refine S.condF rfl ?_ | refine RRun.exit rfl ?_)
    exact S.keep [0, 1, 2, 7, 8] rfl hk
  | succ f ih =>
    intro i hf h1 h2 hk
    by_cases hie : i < e
    · cases hl : ltE d[i]! d[i - 1]! with
      | false =>
        rw [scanSorted_go hie hl] at hk
        refine RRun.inLoop ?_
        repeat' (first | refine S.nilK ?_ | (refine S.op rfl ?_; first | refine S.addNN (n := 1) rfl rfl (by omega) ?_ | refine S.subNN (n := 1) rfl rfl (by omega) (by omega) ?_ | refine S.ix rfl rfl (by omega) ?_ | refine S.ldE (by decide) rfl (by omega) ?_ | refine callS rfl rfl (less_is hl _) ?_ | refine R.mv rfl ?_ | refine R.pickT rfl rfl ?_ | refine R.not rfl ?_ | ((first | refine S.lss rfl rfl ?_ ?_) <;> intro hlt <;> try (exfalso; omega))) | refine S.seq ?_ | refine S.region ?_ | refine S.condT rfl ?_ | refine RRun.skip ?_ | refine RRun.block ?_ | refine RRun.inBlock ?_)
        exact S.keep [0, 1, 2, 7, 8] rfl (ih (i + 1) (by omega) (by omega) (by omega) hk)
      | true =>
        rw [scanSorted_stop (by simp [hl])] at hk
        refine RRun.inLoop ?_
        repeat' (first | refine S.nilK ?_ | (refine S.op rfl ?_; first | refine S.subNN (n := 1) rfl rfl (by omega) (by omega) ?_ | refine S.ix rfl rfl (by omega) ?_ | refine S.ldE (by decide) rfl (by omega) ?_ | refine callS rfl rfl (less_is hl _) ?_ | refine R.mv rfl ?_ | refine R.pickT rfl rfl ?_ | refine R.not rfl ?_ | ((first | refine S.lss rfl rfl ?_ ?_) <;> intro hlt <;> try (exfalso; omega))) | refine S.seq ?_ | refine S.region ?_ | refine S.condF rfl ?_ | refine RRun.exit rfl ?_)
        exact S.keep [0, 1, 2, 7, 8] rfl hk
    · rw [scanSorted_stop (by omega)] at hk
      refine RRun.inLoop ?_
      repeat' (first | refine S.nilK ?_ | (refine S.op rfl ?_; first | refine R.mv rfl ?_ | refine R.pickF rfl rfl ?_ | ((first | refine S.lss rfl rfl ?_ ?_) <;> intro hlt <;> try (exfalso; omega))) | refine S.skip rfl ?_ | refine S.seq ?_ | refine S.region ?_ | refine S.condF rfl ?_ | refine RRun.exit rfl ?_)
      exact S.keep [0, 1, 2, 7, 8] rfl hk
theorem partialIns_spec (q cap n a e : Nat) (sp : List AV) (h : AHeap) (hn : n ≤ 1000000) (he : e ≤ n) (ha : a < e) (h50 : e - a < 50) (d : Array SE) (hd : d.size = n) (hB : Below ltE a e d) :
    ACalls Try.prog 112 [slAt q 0 n cap, i64 a, i64 e] (HL h q d.toList sp) (fun x h' => (∃ r : Bool, x = bl r ∧ (r = true → SortedIn ltE a e d)) ∧ h' = HL h q d.toList sp) := by
  obtain ⟨c, hc1, hc2⟩ := res112
  refine ACalls.enter Try.func112 hc1 Try.ntmps112 hc2 (Nat.le_of_ble_eq_true rfl) rfl ?_
  have hsorted : Go.Sort.scanSorted ltE d e (a + 1) = e → SortedIn ltE a e d := fun hs => by
    have h1 := Go.Sort.partialInsertionSort_holds swo_ltE d a e ha (by omega) hB
    have h2 : Go.Sort.partialInsertionSort ltE d a e = (d, true) := by
      unfold Go.Sort.partialInsertionSort Go.Sort.partialIns
      simp [hs]
    rw [h2] at h1
    exact h1.2 rfl
  repeat' (first | refine S.nilK ?_ | (refine S.op rfl ?_; first | refine S.addNN (n := 1) rfl rfl (by omega) ?_ | refine R.mv rfl ?_) | refine S.seq ?_ | refine S.region ?_ | refine RRun.block ?_)
  refine RRun.loopIn (S.keep [0, 1, 2, 7, 8] rfl ?_)
  refine RRun.inLoop ?_
  unfold r112l0
  repeat' (first | refine S.nilK ?_ | (refine S.op rfl ?_; first | refine R.mv rfl ?_ | ((first | refine S.lss rfl rfl ?_ ?_) <;> intro hlt <;> try (exfalso; omega))) | refine S.seq ?_ | refine S.region ?_ | refine S.condT rfl ?_ | refine RRun.skip ?_ | refine RRun.block ?_)
  refine RRun.loopIn (S.keep [0, 1, 2, 7, 8] rfl (scanSorted_loop q cap n a e sp h hn he d hd _ _ _ e (a + 1) (by omega) (by omega) (by omega) ?_))
  generalize Go.Sort.scanSorted ltE d e (a + 1) = i2 at *
  by_cases hi : i2 = e
  ·
    repeat' (first | refine S.nilK ?_ | (refine S.op rfl ?_; first | refine R.mv rfl ?_ | ((first | refine S.eqInt rfl rfl ?_ ?_) <;> intro hlt <;> try (exfalso; omega))) | refine S.seq ?_ | refine S.region ?_ | refine S.condT rfl ?_)
    apply S.ret rr112
    case hx => repeat (first | exact ResAt.nil | apply ResAt.tmp rfl)
    exact ⟨⟨true, rfl, fun _ => hsorted hi⟩, rfl⟩
  ·
    repeat' (first | refine S.nilK ?_ | (refine S.op rfl ?_; first | refine S.subNN rfl rfl (by omega) (by omega) ?_ | refine R.mv rfl ?_ | ((first | refine S.lss rfl rfl ?_ ?_ | refine S.eqInt rfl rfl ?_ ?_) <;> intro hlt <;> try (exfalso; omega))) | refine S.seq ?_ | refine S.region ?_ | refine S.condT rfl ?_ | refine S.condF rfl ?_ | refine RRun.skip ?_)
    apply S.ret rr112
    case hx => repeat (first | exact ResAt.nil | apply ResAt.tmp rfl)
    exact ⟨⟨false, rfl, fun e => by cases e⟩, rfl⟩
end Go.Proofs.Ytnmgamcmjjngcaa

namespace Go.Proofs.Ytnmgamcmjjngcaa
open Go.Av
open Go.Sort (swp PermIn SortedIn Below SWO)
def r103l0 : RCode :=
  (.block 1
   (.seq (.region [
     ⟨(some 19), none, .act, .mv (.tmp 2)⟩,
     ⟨(some 20), none, .act, .mv (.tmp 1)⟩,
     ⟨(some 21), none, .act, .bin .sub (.tmp 19) (.tmp 20)⟩,
     ⟨(some 10), none, .act, .mv (.tmp 21)⟩])
   (.seq (.seq (.region [
     ⟨(some 22), none, .act, .mv (.tmp 10)⟩,
     ⟨(some 23), none, .act, .bin .leq (.tmp 22) (.const (.int .i64 12))⟩])
   (.cond (.tmp 23)
    (.seq (.region [
      ⟨(some 24), none, .act, .mv (.tmp 0)⟩,
      ⟨(some 25), none, .act, .mv (.tmp 1)⟩,
      ⟨(some 26), none, .act, .mv (.tmp 2)⟩,
      ⟨(some 27), none, .act, .call 107 [(.tmp 24), (.tmp 25), (.tmp 26)]⟩])
    .ret)
    .skip))
   (.seq (.seq (.region [
     ⟨(some 28), none, .act, .mv (.tmp 3)⟩,
     ⟨(some 29), none, .act, .eq false .int (.tmp 28) (.const (.int .i64 0))⟩])
   (.cond (.tmp 29)
    (.seq (.region [
      ⟨(some 30), none, .act, .mv (.tmp 0)⟩,
      ⟨(some 31), none, .act, .mv (.tmp 1)⟩,
      ⟨(some 32), none, .act, .mv (.tmp 2)⟩,
      ⟨(some 33), none, .act, .call 108 [(.tmp 30), (.tmp 31), (.tmp 32)]⟩])
    .ret)
    .skip))
   (.seq (.seq (.region [
     ⟨(some 34), none, .act, .mv (.tmp 8)⟩,
     ⟨(some 35), none, .act, .un .not (.tmp 34)⟩])
   (.cond (.tmp 35)
    (.seq (.region [
      ⟨(some 36), none, .act, .mv (.tmp 0)⟩,
      ⟨(some 37), none, .act, .mv (.tmp 1)⟩,
      ⟨(some 38), none, .act, .mv (.tmp 2)⟩,
      ⟨(some 39), none, .act, .call 109 [(.tmp 36), (.tmp 37), (.tmp 38)]⟩])
    (.region [
      ⟨(some 40), none, .act, .mv (.tmp 3)⟩,
      ⟨(some 41), none, .act, .bin .sub (.tmp 40) (.const (.int .i64 1))⟩,
      ⟨(some 3), none, .act, .mv (.tmp 41)⟩]))
    .skip))
   (.seq (.region [
     ⟨(some 43), none, .act, .mv (.tmp 0)⟩,
     ⟨(some 44), none, .act, .mv (.tmp 1)⟩,
     ⟨(some 45), none, .act, .mv (.tmp 2)⟩,
     ⟨(some 46), none, .act, .call 110 [(.tmp 43), (.tmp 44), (.tmp 45)]⟩,
     ⟨(some 42), none, .act, .mv (.tmp 46)⟩,
     ⟨(some 47), none, .act, .extract (.tmp 42) 0⟩,
     ⟨(some 48), none, .act, .extract (.tmp 42) 1⟩,
     ⟨(some 11), none, .act, .mv (.tmp 47)⟩,
     ⟨(some 12), none, .act, .mv (.tmp 48)⟩])
   (.seq (.seq (.region [
     ⟨(some 49), none, .act, .mv (.tmp 12)⟩,
     ⟨(some 50), none, .act, .eq false .int (.tmp 49) (.const (.int .i64 2))⟩])
   (.cond (.tmp 50)
    (.seq (.region [
      ⟨(some 51), none, .act, .mv (.tmp 0)⟩,
      ⟨(some 52), none, .act, .mv (.tmp 1)⟩,
      ⟨(some 53), none, .act, .mv (.tmp 2)⟩,
      ⟨(some 54), none, .act, .call 111 [(.tmp 51), (.tmp 52), (.tmp 53)]⟩])
    (.seq (.region [
      ⟨(some 55), none, .act, .mv (.tmp 2)⟩,
      ⟨(some 56), none, .act, .bin .sub (.tmp 55) (.const (.int .i64 1))⟩,
      ⟨(some 57), none, .act, .mv (.tmp 11)⟩,
      ⟨(some 58), none, .act, .mv (.tmp 1)⟩,
      ⟨(some 59), none, .act, .bin .sub (.tmp 57) (.tmp 58)⟩,
      ⟨(some 60), none, .act, .bin .sub (.tmp 56) (.tmp 59)⟩,
      ⟨(some 11), none, .act, .mv (.tmp 60)⟩])
    (.region [
      ⟨(some 12), none, .act, .mv (.const (.int .i64 1))⟩])))
    .skip))
   (.seq (.seq (.region [
     ⟨(some 61), none, .act, .mv (.tmp 8)⟩,
     ⟨(some 62), none, .act, .mv (.tmp 61)⟩,
     ⟨(some 63), (some (62, true)), .act, .mv (.tmp 9)⟩,
     ⟨(some 64), none, .act, .pick (.tmp 62) (.tmp 63) (.const (.bool false))⟩,
     ⟨(some 65), none, .act, .mv (.tmp 64)⟩,
     ⟨(some 66), (some (65, true)), .act, .mv (.tmp 12)⟩,
     ⟨(some 67), (some (65, true)), .act, .eq false .int (.tmp 66) (.const (.int .i64 1))⟩,
     ⟨(some 68), none, .act, .pick (.tmp 65) (.tmp 67) (.const (.bool false))⟩])
   (.cond (.tmp 68)
    (.seq (.region [
      ⟨(some 69), none, .act, .mv (.tmp 0)⟩,
      ⟨(some 70), none, .act, .mv (.tmp 1)⟩,
      ⟨(some 71), none, .act, .mv (.tmp 2)⟩,
      ⟨(some 72), none, .act, .call 112 [(.tmp 69), (.tmp 70), (.tmp 71)]⟩])
    (.cond (.tmp 72)
     .ret
     .skip))
    .skip))
   (.seq (.seq (.region [
     ⟨(some 73), none, .pure, .mv (.tmp 1)⟩,
     ⟨(some 74), none, .pure, .bin .gtr (.tmp 73) (.const (.int .i64 0))⟩,
     ⟨(some 75), none, .pure, .mv (.tmp 74)⟩,
     ⟨(some 76), (some (75, true)), .pure, .mv (.tmp 0)⟩,
     ⟨(some 77), (some (75, true)), .pure, .mv (.tmp 1)⟩,
     ⟨(some 78), (some (75, true)), .pure, .bin .sub (.tmp 77) (.const (.int .i64 1))⟩,
     ⟨(some 79), (some (75, true)), .pure, .indexAddr 1 (.tmp 76) (.tmp 78)⟩,
     ⟨(some 80), (some (75, true)), .read, .load false 1 (.tmp 79)⟩,
     ⟨(some 81), (some (75, true)), .pure, .mv (.tmp 0)⟩,
     ⟨(some 82), (some (75, true)), .pure, .mv (.tmp 11)⟩,
     ⟨(some 83), (some (75, true)), .pure, .indexAddr 1 (.tmp 81) (.tmp 82)⟩,
     ⟨(some 84), (some (75, true)), .read, .load false 1 (.tmp 83)⟩,
     ⟨(some 85), (some (75, true)), .act, .call 113 [(.tmp 80), (.tmp 84)]⟩,
     ⟨(some 86), (some (75, true)), .pure, .un .not (.tmp 85)⟩,
     ⟨(some 87), none, .pure, .pick (.tmp 75) (.tmp 86) (.const (.bool false))⟩])
   (.cond (.tmp 87)
    (.seq (.region [
      ⟨(some 88), none, .act, .mv (.tmp 0)⟩,
      ⟨(some 89), none, .act, .mv (.tmp 1)⟩,
      ⟨(some 90), none, .act, .mv (.tmp 2)⟩,
      ⟨(some 91), none, .act, .mv (.tmp 11)⟩,
      ⟨(some 92), none, .act, .call 114 [(.tmp 88), (.tmp 89), (.tmp 90), (.tmp 91)]⟩,
      ⟨(some 13), none, .act, .mv (.tmp 92)⟩])
    (.seq (.region [
      ⟨(some 93), none, .act, .mv (.tmp 13)⟩,
      ⟨(some 1), none, .act, .mv (.tmp 93)⟩])
    (.exit 1)))
    .skip))
   (.seq (.region [
     ⟨(some 95), none, .act, .mv (.tmp 0)⟩,
     ⟨(some 96), none, .act, .mv (.tmp 1)⟩,
     ⟨(some 97), none, .act, .mv (.tmp 2)⟩,
     ⟨(some 98), none, .act, .mv (.tmp 11)⟩,
     ⟨(some 99), none, .act, .call 115 [(.tmp 95), (.tmp 96), (.tmp 97), (.tmp 98)]⟩,
     ⟨(some 94), none, .act, .mv (.tmp 99)⟩,
     ⟨(some 100), none, .act, .extract (.tmp 94) 0⟩,
     ⟨(some 101), none, .act, .extract (.tmp 94) 1⟩,
     ⟨(some 14), none, .act, .mv (.tmp 100)⟩,
     ⟨(some 15), none, .act, .mv (.tmp 101)⟩])
   (.seq (.region [
     ⟨(some 102), none, .act, .mv (.tmp 15)⟩,
     ⟨(some 9), none, .act, .mv (.tmp 102)⟩])
   (.seq (.region [
     ⟨(some 103), none, .act, .mv (.tmp 14)⟩,
     ⟨(some 104), none, .act, .mv (.tmp 1)⟩,
     ⟨(some 105), none, .act, .bin .sub (.tmp 103) (.tmp 104)⟩,
     ⟨(some 106), none, .act, .mv (.tmp 2)⟩,
     ⟨(some 107), none, .act, .mv (.tmp 14)⟩,
     ⟨(some 108), none, .act, .bin .sub (.tmp 106) (.tmp 107)⟩,
     ⟨(some 16), none, .act, .mv (.tmp 105)⟩,
     ⟨(some 17), none, .act, .mv (.tmp 108)⟩])
   (.seq (.region [
     ⟨(some 109), none, .act, .mv (.tmp 10)⟩,
     ⟨(some 110), none, .act, .bin .quo (.tmp 109) (.const (.int .i64 8))⟩,
     ⟨(some 18), none, .act, .mv (.tmp 110)⟩])
   (.seq (.region [
     ⟨(some 111), none, .act, .mv (.tmp 16)⟩,
     ⟨(some 112), none, .act, .mv (.tmp 17)⟩,
     ⟨(some 113), none, .act, .bin .lss (.tmp 111) (.tmp 112)⟩])
   (.cond (.tmp 113)
    (.seq (.region [
      ⟨(some 114), none, .act, .mv (.tmp 16)⟩,
      ⟨(some 115), none, .act, .mv (.tmp 18)⟩,
      ⟨(some 116), none, .act, .bin .geq (.tmp 114) (.tmp 115)⟩,
      ⟨(some 8), none, .act, .mv (.tmp 116)⟩])
    (.seq (.region [
      ⟨(some 117), none, .act, .mv (.tmp 0)⟩,
      ⟨(some 118), none, .act, .mv (.tmp 1)⟩,
      ⟨(some 119), none, .act, .mv (.tmp 14)⟩,
      ⟨(some 120), none, .act, .mv (.tmp 3)⟩,
      ⟨(some 121), none, .act, .call 103 [(.tmp 117), (.tmp 118), (.tmp 119), (.tmp 120)]⟩])
    (.region [
      ⟨(some 122), none, .act, .mv (.tmp 14)⟩,
      ⟨(some 123), none, .act, .bin .add (.tmp 122) (.const (.int .i64 1))⟩,
      ⟨(some 1), none, .act, .mv (.tmp 123)⟩])))
    (.seq (.region [
      ⟨(some 124), none, .act, .mv (.tmp 17)⟩,
      ⟨(some 125), none, .act, .mv (.tmp 18)⟩,
      ⟨(some 126), none, .act, .bin .geq (.tmp 124) (.tmp 125)⟩,
      ⟨(some 8), none, .act, .mv (.tmp 126)⟩])
    (.seq (.region [
      ⟨(some 127), none, .act, .mv (.tmp 0)⟩,
      ⟨(some 128), none, .act, .mv (.tmp 14)⟩,
      ⟨(some 129), none, .act, .bin .add (.tmp 128) (.const (.int .i64 1))⟩,
      ⟨(some 130), none, .act, .mv (.tmp 2)⟩,
      ⟨(some 131), none, .act, .mv (.tmp 3)⟩,
      ⟨(some 132), none, .act, .call 103 [(.tmp 127), (.tmp 129), (.tmp 130), (.tmp 131)]⟩])
    (.region [
      ⟨(some 133), none, .act, .mv (.tmp 14)⟩,
      ⟨(some 2), none, .act, .mv (.tmp 133)⟩]))))))))))))))))))
def r103 : RCode :=
  (.seq (.region [
    ⟨(some 8), none, .act, .mv (.const (.bool true))⟩])
  (.seq (.region [
    ⟨(some 9), none, .act, .mv (.const (.bool true))⟩])
  (.block 0
   (.loop r103l0))))
theorem res103 : ∃ c, Try.f103.body = some c ∧ resCode Try.prog 134 c = some r103 := ⟨_, rfl, by kernel_rfl⟩
theorem rr103 : resRes Try.prog Try.f103.results.toList = some [] := by kernel_rfl
def PdqRest (q cap n : Nat) (sp : List AV) (h : AHeap) (G : Array SE → Prop) (a e : Nat) (d : Array SE) : Prop := ∀ (limit : Nat) (wB wP : Bool), limit ≤ 100 →
  RRun Try.prog Try.f103 134 [.inLoop r103l0, .inBlock 0] (Env.get [(0, slAt q 0 n cap), (1, i64 a), (2, i64 e), (3, i64 limit), (8, bl wB), (9, bl wP)]) (HL h q d.toList sp) (fun _ h' => ∃ d', G d' ∧ h' = HL h q d'.toList sp)
def PdqAll (q cap n : Nat) (sp : List AV) (h : AHeap) (f : Nat) : Prop := ∀ (a e : Nat) (d : Array SE) (G : Array SE → Prop), e - a < f → a ≤ e → e ≤ n → d.size = n → Below ltE a e d →
  (∀ d', d'.size = n → PermIn a e d d' → SortedIn ltE a e d' → G d') → PdqRest q cap n sp h G a e d
theorem pdq_call {q cap n f : Nat} {sp : List AV} {h : AHeap} (hA : PdqAll q cap n sp h f) (a e limit : Nat) (d : Array SE) (hf : e - a < f) (ha : a ≤ e) (he : e ≤ n) (hd : d.size = n) (hB : Below ltE a e d) (hl : limit ≤ 100) :
    ACalls Try.prog 103 [slAt q 0 n cap, i64 a, i64 e, i64 limit] (HL h q d.toList sp) (fun _ h' => ∃ d', (d'.size = n ∧ PermIn a e d d' ∧ SortedIn ltE a e d') ∧ h' = HL h q d'.toList sp) := by
  obtain ⟨c, hc1, hc2⟩ := res103
  refine ACalls.enter Try.func103 hc1 Try.ntmps103 hc2 (Nat.le_of_ble_eq_true rfl) rfl ?_
  repeat' (first | refine S.nilK ?_ | (refine S.op rfl ?_; first | refine R.mv rfl ?_) | refine S.seq ?_ | refine S.region ?_ | refine RRun.block ?_)
  exact RRun.loopIn (S.keep [0, 1, 2, 3, 8, 9] rfl (hA a e d _ hf ha he hd hB (fun d' h1 h2 h3 => ⟨h1, h2, h3⟩) limit true true hl))
def r103e : RCode :=
  (.seq (.region [
     ⟨(some 95), none, .act, .mv (.tmp 0)⟩,
     ⟨(some 96), none, .act, .mv (.tmp 1)⟩,
     ⟨(some 97), none, .act, .mv (.tmp 2)⟩,
     ⟨(some 98), none, .act, .mv (.tmp 11)⟩,
     ⟨(some 99), none, .act, .call 115 [(.tmp 95), (.tmp 96), (.tmp 97), (.tmp 98)]⟩,
     ⟨(some 94), none, .act, .mv (.tmp 99)⟩,
     ⟨(some 100), none, .act, .extract (.tmp 94) 0⟩,
     ⟨(some 101), none, .act, .extract (.tmp 94) 1⟩,
     ⟨(some 14), none, .act, .mv (.tmp 100)⟩,
     ⟨(some 15), none, .act, .mv (.tmp 101)⟩])
   (.seq (.region [
     ⟨(some 102), none, .act, .mv (.tmp 15)⟩,
     ⟨(some 9), none, .act, .mv (.tmp 102)⟩])
   (.seq (.region [
     ⟨(some 103), none, .act, .mv (.tmp 14)⟩,
     ⟨(some 104), none, .act, .mv (.tmp 1)⟩,
     ⟨(some 105), none, .act, .bin .sub (.tmp 103) (.tmp 104)⟩,
     ⟨(some 106), none, .act, .mv (.tmp 2)⟩,
     ⟨(some 107), none, .act, .mv (.tmp 14)⟩,
     ⟨(some 108), none, .act, .bin .sub (.tmp 106) (.tmp 107)⟩,
     ⟨(some 16), none, .act, .mv (.tmp 105)⟩,
     ⟨(some 17), none, .act, .mv (.tmp 108)⟩])
   (.seq (.region [
     ⟨(some 109), none, .act, .mv (.tmp 10)⟩,
     ⟨(some 110), none, .act, .bin .quo (.tmp 109) (.const (.int .i64 8))⟩,
     ⟨(some 18), none, .act, .mv (.tmp 110)⟩])
   (.seq (.region [
     ⟨(some 111), none, .act, .mv (.tmp 16)⟩,
     ⟨(some 112), none, .act, .mv (.tmp 17)⟩,
     ⟨(some 113), none, .act, .bin .lss (.tmp 111) (.tmp 112)⟩])
   (.cond (.tmp 113)
    (.seq (.region [
      ⟨(some 114), none, .act, .mv (.tmp 16)⟩,
      ⟨(some 115), none, .act, .mv (.tmp 18)⟩,
      ⟨(some 116), none, .act, .bin .geq (.tmp 114) (.tmp 115)⟩,
      ⟨(some 8), none, .act, .mv (.tmp 116)⟩])
    (.seq (.region [
      ⟨(some 117), none, .act, .mv (.tmp 0)⟩,
      ⟨(some 118), none, .act, .mv (.tmp 1)⟩,
      ⟨(some 119), none, .act, .mv (.tmp 14)⟩,
      ⟨(some 120), none, .act, .mv (.tmp 3)⟩,
      ⟨(some 121), none, .act, .call 103 [(.tmp 117), (.tmp 118), (.tmp 119), (.tmp 120)]⟩])
    (.region [
      ⟨(some 122), none, .act, .mv (.tmp 14)⟩,
      ⟨(some 123), none, .act, .bin .add (.tmp 122) (.const (.int .i64 1))⟩,
      ⟨(some 1), none, .act, .mv (.tmp 123)⟩])))
    (.seq (.region [
      ⟨(some 124), none, .act, .mv (.tmp 17)⟩,
      ⟨(some 125), none, .act, .mv (.tmp 18)⟩,
      ⟨(some 126), none, .act, .bin .geq (.tmp 124) (.tmp 125)⟩,
      ⟨(some 8), none, .act, .mv (.tmp 126)⟩])
    (.seq (.region [
      ⟨(some 127), none, .act, .mv (.tmp 0)⟩,
      ⟨(some 128), none, .act, .mv (.tmp 14)⟩,
      ⟨(some 129), none, .act, .bin .add (.tmp 128) (.const (.int .i64 1))⟩,
      ⟨(some 130), none, .act, .mv (.tmp 2)⟩,
      ⟨(some 131), none, .act, .mv (.tmp 3)⟩,
      ⟨(some 132), none, .act, .call 103 [(.tmp 127), (.tmp 129), (.tmp 130), (.tmp 131)]⟩])
    (.region [
      ⟨(some 133), none, .act, .mv (.tmp 14)⟩,
      ⟨(some 2), none, .act, .mv (.tmp 133)⟩])))))))))
def r103d : RCode :=
  (.seq (.seq (.region [
     ⟨(some 73), none, .pure, .mv (.tmp 1)⟩,
     ⟨(some 74), none, .pure, .bin .gtr (.tmp 73) (.const (.int .i64 0))⟩,
     ⟨(some 75), none, .pure, .mv (.tmp 74)⟩,
     ⟨(some 76), (some (75, true)), .pure, .mv (.tmp 0)⟩,
     ⟨(some 77), (some (75, true)), .pure, .mv (.tmp 1)⟩,
     ⟨(some 78), (some (75, true)), .pure, .bin .sub (.tmp 77) (.const (.int .i64 1))⟩,
     ⟨(some 79), (some (75, true)), .pure, .indexAddr 1 (.tmp 76) (.tmp 78)⟩,
     ⟨(some 80), (some (75, true)), .read, .load false 1 (.tmp 79)⟩,
     ⟨(some 81), (some (75, true)), .pure, .mv (.tmp 0)⟩,
     ⟨(some 82), (some (75, true)), .pure, .mv (.tmp 11)⟩,
     ⟨(some 83), (some (75, true)), .pure, .indexAddr 1 (.tmp 81) (.tmp 82)⟩,
     ⟨(some 84), (some (75, true)), .read, .load false 1 (.tmp 83)⟩,
     ⟨(some 85), (some (75, true)), .act, .call 113 [(.tmp 80), (.tmp 84)]⟩,
     ⟨(some 86), (some (75, true)), .pure, .un .not (.tmp 85)⟩,
     ⟨(some 87), none, .pure, .pick (.tmp 75) (.tmp 86) (.const (.bool false))⟩])
   (.cond (.tmp 87)
    (.seq (.region [
      ⟨(some 88), none, .act, .mv (.tmp 0)⟩,
      ⟨(some 89), none, .act, .mv (.tmp 1)⟩,
      ⟨(some 90), none, .act, .mv (.tmp 2)⟩,
      ⟨(some 91), none, .act, .mv (.tmp 11)⟩,
      ⟨(some 92), none, .act, .call 114 [(.tmp 88), (.tmp 89), (.tmp 90), (.tmp 91)]⟩,
      ⟨(some 13), none, .act, .mv (.tmp 92)⟩])
    (.seq (.region [
      ⟨(some 93), none, .act, .mv (.tmp 13)⟩,
      ⟨(some 1), none, .act, .mv (.tmp 93)⟩])
    (.exit 1)))
    .skip))
   (.seq (.region [
     ⟨(some 95), none, .act, .mv (.tmp 0)⟩,
     ⟨(some 96), none, .act, .mv (.tmp 1)⟩,
     ⟨(some 97), none, .act, .mv (.tmp 2)⟩,
     ⟨(some 98), none, .act, .mv (.tmp 11)⟩,
     ⟨(some 99), none, .act, .call 115 [(.tmp 95), (.tmp 96), (.tmp 97), (.tmp 98)]⟩,
     ⟨(some 94), none, .act, .mv (.tmp 99)⟩,
     ⟨(some 100), none, .act, .extract (.tmp 94) 0⟩,
     ⟨(some 101), none, .act, .extract (.tmp 94) 1⟩,
     ⟨(some 14), none, .act, .mv (.tmp 100)⟩,
     ⟨(some 15), none, .act, .mv (.tmp 101)⟩])
   (.seq (.region [
     ⟨(some 102), none, .act, .mv (.tmp 15)⟩,
     ⟨(some 9), none, .act, .mv (.tmp 102)⟩])
   (.seq (.region [
     ⟨(some 103), none, .act, .mv (.tmp 14)⟩,
     ⟨(some 104), none, .act, .mv (.tmp 1)⟩,
     ⟨(some 105), none, .act, .bin .sub (.tmp 103) (.tmp 104)⟩,
     ⟨(some 106), none, .act, .mv (.tmp 2)⟩,
     ⟨(some 107), none, .act, .mv (.tmp 14)⟩,
     ⟨(some 108), none, .act, .bin .sub (.tmp 106) (.tmp 107)⟩,
     ⟨(some 16), none, .act, .mv (.tmp 105)⟩,
     ⟨(some 17), none, .act, .mv (.tmp 108)⟩])
   (.seq (.region [
     ⟨(some 109), none, .act, .mv (.tmp 10)⟩,
     ⟨(some 110), none, .act, .bin .quo (.tmp 109) (.const (.int .i64 8))⟩,
     ⟨(some 18), none, .act, .mv (.tmp 110)⟩])
   (.seq (.region [
     ⟨(some 111), none, .act, .mv (.tmp 16)⟩,
     ⟨(some 112), none, .act, .mv (.tmp 17)⟩,
     ⟨(some 113), none, .act, .bin .lss (.tmp 111) (.tmp 112)⟩])
   (.cond (.tmp 113)
    (.seq (.region [
      ⟨(some 114), none, .act, .mv (.tmp 16)⟩,
      ⟨(some 115), none, .act, .mv (.tmp 18)⟩,
      ⟨(some 116), none, .act, .bin .geq (.tmp 114) (.tmp 115)⟩,
      ⟨(some 8), none, .act, .mv (.tmp 116)⟩])
    (.seq (.region [
      ⟨(some 117), none, .act, .mv (.tmp 0)⟩,
      ⟨(some 118), none, .act, .mv (.tmp 1)⟩,
      ⟨(some 119), none, .act, .mv (.tmp 14)⟩,
      ⟨(some 120), none, .act, .mv (.tmp 3)⟩,
      ⟨(some 121), none, .act, .call 103 [(.tmp 117), (.tmp 118), (.tmp 119), (.tmp 120)]⟩])
    (.region [
      ⟨(some 122), none, .act, .mv (.tmp 14)⟩,
      ⟨(some 123), none, .act, .bin .add (.tmp 122) (.const (.int .i64 1))⟩,
      ⟨(some 1), none, .act, .mv (.tmp 123)⟩])))
    (.seq (.region [
      ⟨(some 124), none, .act, .mv (.tmp 17)⟩,
      ⟨(some 125), none, .act, .mv (.tmp 18)⟩,
      ⟨(some 126), none, .act, .bin .geq (.tmp 124) (.tmp 125)⟩,
      ⟨(some 8), none, .act, .mv (.tmp 126)⟩])
    (.seq (.region [
      ⟨(some 127), none, .act, .mv (.tmp 0)⟩,
      ⟨(some 128), none, .act, .mv (.tmp 14)⟩,
      ⟨(some 129), none, .act, .bin .add (.tmp 128) (.const (.int .i64 1))⟩,
      ⟨(some 130), none, .act, .mv (.tmp 2)⟩,
      ⟨(some 131), none, .act, .mv (.tmp 3)⟩,
      ⟨(some 132), none, .act, .call 103 [(.tmp 127), (.tmp 129), (.tmp 130), (.tmp 131)]⟩])
    (.region [
      ⟨(some 133), none, .act, .mv (.tmp 14)⟩,
      ⟨(some 2), none, .act, .mv (.tmp 133)⟩]))))))))))
def r103c : RCode :=
  (.seq (.seq (.region [
     ⟨(some 61), none, .act, .mv (.tmp 8)⟩,
     ⟨(some 62), none, .act, .mv (.tmp 61)⟩,
     ⟨(some 63), (some (62, true)), .act, .mv (.tmp 9)⟩,
     ⟨(some 64), none, .act, .pick (.tmp 62) (.tmp 63) (.const (.bool false))⟩,
     ⟨(some 65), none, .act, .mv (.tmp 64)⟩,
     ⟨(some 66), (some (65, true)), .act, .mv (.tmp 12)⟩,
     ⟨(some 67), (some (65, true)), .act, .eq false .int (.tmp 66) (.const (.int .i64 1))⟩,
     ⟨(some 68), none, .act, .pick (.tmp 65) (.tmp 67) (.const (.bool false))⟩])
   (.cond (.tmp 68)
    (.seq (.region [
      ⟨(some 69), none, .act, .mv (.tmp 0)⟩,
      ⟨(some 70), none, .act, .mv (.tmp 1)⟩,
      ⟨(some 71), none, .act, .mv (.tmp 2)⟩,
      ⟨(some 72), none, .act, .call 112 [(.tmp 69), (.tmp 70), (.tmp 71)]⟩])
    (.cond (.tmp 72)
     .ret
     .skip))
    .skip))
   (.seq (.seq (.region [
     ⟨(some 73), none, .pure, .mv (.tmp 1)⟩,
     ⟨(some 74), none, .pure, .bin .gtr (.tmp 73) (.const (.int .i64 0))⟩,
     ⟨(some 75), none, .pure, .mv (.tmp 74)⟩,
     ⟨(some 76), (some (75, true)), .pure, .mv (.tmp 0)⟩,
     ⟨(some 77), (some (75, true)), .pure, .mv (.tmp 1)⟩,
     ⟨(some 78), (some (75, true)), .pure, .bin .sub (.tmp 77) (.const (.int .i64 1))⟩,
     ⟨(some 79), (some (75, true)), .pure, .indexAddr 1 (.tmp 76) (.tmp 78)⟩,
     ⟨(some 80), (some (75, true)), .read, .load false 1 (.tmp 79)⟩,
     ⟨(some 81), (some (75, true)), .pure, .mv (.tmp 0)⟩,
     ⟨(some 82), (some (75, true)), .pure, .mv (.tmp 11)⟩,
     ⟨(some 83), (some (75, true)), .pure, .indexAddr 1 (.tmp 81) (.tmp 82)⟩,
     ⟨(some 84), (some (75, true)), .read, .load false 1 (.tmp 83)⟩,
     ⟨(some 85), (some (75, true)), .act, .call 113 [(.tmp 80), (.tmp 84)]⟩,
     ⟨(some 86), (some (75, true)), .pure, .un .not (.tmp 85)⟩,
     ⟨(some 87), none, .pure, .pick (.tmp 75) (.tmp 86) (.const (.bool false))⟩])
   (.cond (.tmp 87)
    (.seq (.region [
      ⟨(some 88), none, .act, .mv (.tmp 0)⟩,
      ⟨(some 89), none, .act, .mv (.tmp 1)⟩,
      ⟨(some 90), none, .act, .mv (.tmp 2)⟩,
      ⟨(some 91), none, .act, .mv (.tmp 11)⟩,
      ⟨(some 92), none, .act, .call 114 [(.tmp 88), (.tmp 89), (.tmp 90), (.tmp 91)]⟩,
      ⟨(some 13), none, .act, .mv (.tmp 92)⟩])
    (.seq (.region [
      ⟨(some 93), none, .act, .mv (.tmp 13)⟩,
      ⟨(some 1), none, .act, .mv (.tmp 93)⟩])
    (.exit 1)))
    .skip))
   (.seq (.region [
     ⟨(some 95), none, .act, .mv (.tmp 0)⟩,
     ⟨(some 96), none, .act, .mv (.tmp 1)⟩,
     ⟨(some 97), none, .act, .mv (.tmp 2)⟩,
     ⟨(some 98), none, .act, .mv (.tmp 11)⟩,
     ⟨(some 99), none, .act, .call 115 [(.tmp 95), (.tmp 96), (.tmp 97), (.tmp 98)]⟩,
     ⟨(some 94), none, .act, .mv (.tmp 99)⟩,
     ⟨(some 100), none, .act, .extract (.tmp 94) 0⟩,
     ⟨(some 101), none, .act, .extract (.tmp 94) 1⟩,
     ⟨(some 14), none, .act, .mv (.tmp 100)⟩,
     ⟨(some 15), none, .act, .mv (.tmp 101)⟩])
   (.seq (.region [
     ⟨(some 102), none, .act, .mv (.tmp 15)⟩,
     ⟨(some 9), none, .act, .mv (.tmp 102)⟩])
   (.seq (.region [
     ⟨(some 103), none, .act, .mv (.tmp 14)⟩,
     ⟨(some 104), none, .act, .mv (.tmp 1)⟩,
     ⟨(some 105), none, .act, .bin .sub (.tmp 103) (.tmp 104)⟩,
     ⟨(some 106), none, .act, .mv (.tmp 2)⟩,
     ⟨(some 107), none, .act, .mv (.tmp 14)⟩,
     ⟨(some 108), none, .act, .bin .sub (.tmp 106) (.tmp 107)⟩,
     ⟨(some 16), none, .act, .mv (.tmp 105)⟩,
     ⟨(some 17), none, .act, .mv (.tmp 108)⟩])
   (.seq (.region [
     ⟨(some 109), none, .act, .mv (.tmp 10)⟩,
     ⟨(some 110), none, .act, .bin .quo (.tmp 109) (.const (.int .i64 8))⟩,
     ⟨(some 18), none, .act, .mv (.tmp 110)⟩])
   (.seq (.region [
     ⟨(some 111), none, .act, .mv (.tmp 16)⟩,
     ⟨(some 112), none, .act, .mv (.tmp 17)⟩,
     ⟨(some 113), none, .act, .bin .lss (.tmp 111) (.tmp 112)⟩])
   (.cond (.tmp 113)
    (.seq (.region [
      ⟨(some 114), none, .act, .mv (.tmp 16)⟩,
      ⟨(some 115), none, .act, .mv (.tmp 18)⟩,
      ⟨(some 116), none, .act, .bin .geq (.tmp 114) (.tmp 115)⟩,
      ⟨(some 8), none, .act, .mv (.tmp 116)⟩])
    (.seq (.region [
      ⟨(some 117), none, .act, .mv (.tmp 0)⟩,
      ⟨(some 118), none, .act, .mv (.tmp 1)⟩,
      ⟨(some 119), none, .act, .mv (.tmp 14)⟩,
      ⟨(some 120), none, .act, .mv (.tmp 3)⟩,
      ⟨(some 121), none, .act, .call 103 [(.tmp 117), (.tmp 118), (.tmp 119), (.tmp 120)]⟩])
    (.region [
      ⟨(some 122), none, .act, .mv (.tmp 14)⟩,
      ⟨(some 123), none, .act, .bin .add (.tmp 122) (.const (.int .i64 1))⟩,
      ⟨(some 1), none, .act, .mv (.tmp 123)⟩])))
    (.seq (.region [
      ⟨(some 124), none, .act, .mv (.tmp 17)⟩,
      ⟨(some 125), none, .act, .mv (.tmp 18)⟩,
      ⟨(some 126), none, .act, .bin .geq (.tmp 124) (.tmp 125)⟩,
      ⟨(some 8), none, .act, .mv (.tmp 126)⟩])
    (.seq (.region [
      ⟨(some 127), none, .act, .mv (.tmp 0)⟩,
      ⟨(some 128), none, .act, .mv (.tmp 14)⟩,
      ⟨(some 129), none, .act, .bin .add (.tmp 128) (.const (.int .i64 1))⟩,
      ⟨(some 130), none, .act, .mv (.tmp 2)⟩,
      ⟨(some 131), none, .act, .mv (.tmp 3)⟩,
      ⟨(some 132), none, .act, .call 103 [(.tmp 127), (.tmp 129), (.tmp 130), (.tmp 131)]⟩])
    (.region [
      ⟨(some 133), none, .act, .mv (.tmp 14)⟩,
      ⟨(some 2), none, .act, .mv (.tmp 133)⟩])))))))))))
def r103b : RCode :=
  (.seq (.seq (.region [
     ⟨(some 49), none, .act, .mv (.tmp 12)⟩,
     ⟨(some 50), none, .act, .eq false .int (.tmp 49) (.const (.int .i64 2))⟩])
   (.cond (.tmp 50)
    (.seq (.region [
      ⟨(some 51), none, .act, .mv (.tmp 0)⟩,
      ⟨(some 52), none, .act, .mv (.tmp 1)⟩,
      ⟨(some 53), none, .act, .mv (.tmp 2)⟩,
      ⟨(some 54), none, .act, .call 111 [(.tmp 51), (.tmp 52), (.tmp 53)]⟩])
    (.seq (.region [
      ⟨(some 55), none, .act, .mv (.tmp 2)⟩,
      ⟨(some 56), none, .act, .bin .sub (.tmp 55) (.const (.int .i64 1))⟩,
      ⟨(some 57), none, .act, .mv (.tmp 11)⟩,
      ⟨(some 58), none, .act, .mv (.tmp 1)⟩,
      ⟨(some 59), none, .act, .bin .sub (.tmp 57) (.tmp 58)⟩,
      ⟨(some 60), none, .act, .bin .sub (.tmp 56) (.tmp 59)⟩,
      ⟨(some 11), none, .act, .mv (.tmp 60)⟩])
    (.region [
      ⟨(some 12), none, .act, .mv (.const (.int .i64 1))⟩])))
    .skip))
   (.seq (.seq (.region [
     ⟨(some 61), none, .act, .mv (.tmp 8)⟩,
     ⟨(some 62), none, .act, .mv (.tmp 61)⟩,
     ⟨(some 63), (some (62, true)), .act, .mv (.tmp 9)⟩,
     ⟨(some 64), none, .act, .pick (.tmp 62) (.tmp 63) (.const (.bool false))⟩,
     ⟨(some 65), none, .act, .mv (.tmp 64)⟩,
     ⟨(some 66), (some (65, true)), .act, .mv (.tmp 12)⟩,
     ⟨(some 67), (some (65, true)), .act, .eq false .int (.tmp 66) (.const (.int .i64 1))⟩,
     ⟨(some 68), none, .act, .pick (.tmp 65) (.tmp 67) (.const (.bool false))⟩])
   (.cond (.tmp 68)
    (.seq (.region [
      ⟨(some 69), none, .act, .mv (.tmp 0)⟩,
      ⟨(some 70), none, .act, .mv (.tmp 1)⟩,
      ⟨(some 71), none, .act, .mv (.tmp 2)⟩,
      ⟨(some 72), none, .act, .call 112 [(.tmp 69), (.tmp 70), (.tmp 71)]⟩])
    (.cond (.tmp 72)
     .ret
     .skip))
    .skip))
   (.seq (.seq (.region [
     ⟨(some 73), none, .pure, .mv (.tmp 1)⟩,
     ⟨(some 74), none, .pure, .bin .gtr (.tmp 73) (.const (.int .i64 0))⟩,
     ⟨(some 75), none, .pure, .mv (.tmp 74)⟩,
     ⟨(some 76), (some (75, true)), .pure, .mv (.tmp 0)⟩,
     ⟨(some 77), (some (75, true)), .pure, .mv (.tmp 1)⟩,
     ⟨(some 78), (some (75, true)), .pure, .bin .sub (.tmp 77) (.const (.int .i64 1))⟩,
     ⟨(some 79), (some (75, true)), .pure, .indexAddr 1 (.tmp 76) (.tmp 78)⟩,
     ⟨(some 80), (some (75, true)), .read, .load false 1 (.tmp 79)⟩,
     ⟨(some 81), (some (75, true)), .pure, .mv (.tmp 0)⟩,
     ⟨(some 82), (some (75, true)), .pure, .mv (.tmp 11)⟩,
     ⟨(some 83), (some (75, true)), .pure, .indexAddr 1 (.tmp 81) (.tmp 82)⟩,
     ⟨(some 84), (some (75, true)), .read, .load false 1 (.tmp 83)⟩,
     ⟨(some 85), (some (75, true)), .act, .call 113 [(.tmp 80), (.tmp 84)]⟩,
     ⟨(some 86), (some (75, true)), .pure, .un .not (.tmp 85)⟩,
     ⟨(some 87), none, .pure, .pick (.tmp 75) (.tmp 86) (.const (.bool false))⟩])
   (.cond (.tmp 87)
    (.seq (.region [
      ⟨(some 88), none, .act, .mv (.tmp 0)⟩,
      ⟨(some 89), none, .act, .mv (.tmp 1)⟩,
      ⟨(some 90), none, .act, .mv (.tmp 2)⟩,
      ⟨(some 91), none, .act, .mv (.tmp 11)⟩,
      ⟨(some 92), none, .act, .call 114 [(.tmp 88), (.tmp 89), (.tmp 90), (.tmp 91)]⟩,
      ⟨(some 13), none, .act, .mv (.tmp 92)⟩])
    (.seq (.region [
      ⟨(some 93), none, .act, .mv (.tmp 13)⟩,
      ⟨(some 1), none, .act, .mv (.tmp 93)⟩])
    (.exit 1)))
    .skip))
   (.seq (.region [
     ⟨(some 95), none, .act, .mv (.tmp 0)⟩,
     ⟨(some 96), none, .act, .mv (.tmp 1)⟩,
     ⟨(some 97), none, .act, .mv (.tmp 2)⟩,
     ⟨(some 98), none, .act, .mv (.tmp 11)⟩,
     ⟨(some 99), none, .act, .call 115 [(.tmp 95), (.tmp 96), (.tmp 97), (.tmp 98)]⟩,
     ⟨(some 94), none, .act, .mv (.tmp 99)⟩,
     ⟨(some 100), none, .act, .extract (.tmp 94) 0⟩,
     ⟨(some 101), none, .act, .extract (.tmp 94) 1⟩,
     ⟨(some 14), none, .act, .mv (.tmp 100)⟩,
     ⟨(some 15), none, .act, .mv (.tmp 101)⟩])
   (.seq (.region [
     ⟨(some 102), none, .act, .mv (.tmp 15)⟩,
     ⟨(some 9), none, .act, .mv (.tmp 102)⟩])
   (.seq (.region [
     ⟨(some 103), none, .act, .mv (.tmp 14)⟩,
     ⟨(some 104), none, .act, .mv (.tmp 1)⟩,
     ⟨(some 105), none, .act, .bin .sub (.tmp 103) (.tmp 104)⟩,
     ⟨(some 106), none, .act, .mv (.tmp 2)⟩,
     ⟨(some 107), none, .act, .mv (.tmp 14)⟩,
     ⟨(some 108), none, .act, .bin .sub (.tmp 106) (.tmp 107)⟩,
     ⟨(some 16), none, .act, .mv (.tmp 105)⟩,
     ⟨(some 17), none, .act, .mv (.tmp 108)⟩])
   (.seq (.region [
     ⟨(some 109), none, .act, .mv (.tmp 10)⟩,
     ⟨(some 110), none, .act, .bin .quo (.tmp 109) (.const (.int .i64 8))⟩,
     ⟨(some 18), none, .act, .mv (.tmp 110)⟩])
   (.seq (.region [
     ⟨(some 111), none, .act, .mv (.tmp 16)⟩,
     ⟨(some 112), none, .act, .mv (.tmp 17)⟩,
     ⟨(some 113), none, .act, .bin .lss (.tmp 111) (.tmp 112)⟩])
   (.cond (.tmp 113)
    (.seq (.region [
      ⟨(some 114), none, .act, .mv (.tmp 16)⟩,
      ⟨(some 115), none, .act, .mv (.tmp 18)⟩,
      ⟨(some 116), none, .act, .bin .geq (.tmp 114) (.tmp 115)⟩,
      ⟨(some 8), none, .act, .mv (.tmp 116)⟩])
    (.seq (.region [
      ⟨(some 117), none, .act, .mv (.tmp 0)⟩,
      ⟨(some 118), none, .act, .mv (.tmp 1)⟩,
      ⟨(some 119), none, .act, .mv (.tmp 14)⟩,
      ⟨(some 120), none, .act, .mv (.tmp 3)⟩,
      ⟨(some 121), none, .act, .call 103 [(.tmp 117), (.tmp 118), (.tmp 119), (.tmp 120)]⟩])
    (.region [
      ⟨(some 122), none, .act, .mv (.tmp 14)⟩,
      ⟨(some 123), none, .act, .bin .add (.tmp 122) (.const (.int .i64 1))⟩,
      ⟨(some 1), none, .act, .mv (.tmp 123)⟩])))
    (.seq (.region [
      ⟨(some 124), none, .act, .mv (.tmp 17)⟩,
      ⟨(some 125), none, .act, .mv (.tmp 18)⟩,
      ⟨(some 126), none, .act, .bin .geq (.tmp 124) (.tmp 125)⟩,
      ⟨(some 8), none, .act, .mv (.tmp 126)⟩])
    (.seq (.region [
      ⟨(some 127), none, .act, .mv (.tmp 0)⟩,
      ⟨(some 128), none, .act, .mv (.tmp 14)⟩,
      ⟨(some 129), none, .act, .bin .add (.tmp 128) (.const (.int .i64 1))⟩,
      ⟨(some 130), none, .act, .mv (.tmp 2)⟩,
      ⟨(some 131), none, .act, .mv (.tmp 3)⟩,
      ⟨(some 132), none, .act, .call 103 [(.tmp 127), (.tmp 129), (.tmp 130), (.tmp 131)]⟩])
    (.region [
      ⟨(some 133), none, .act, .mv (.tmp 14)⟩,
      ⟨(some 2), none, .act, .mv (.tmp 133)⟩]))))))))))))
theorem pdq_E {q cap n f : Nat} {sp : List AV} {h : AHeap} (hA : PdqAll q cap n sp h f) (hn : n ≤ 49) (a e pivot limit : Nat) (d : Array SE) (G : Array SE → Prop) (hf : e - a ≤ f) (hap : a ≤ pivot) (hpe : pivot < e) (he : e ≤ n) (hd : d.size = n) (hB : Below ltE a e d) (hl : limit ≤ 100)
    (hR : ∀ d', d'.size = n → PermIn a e d d' → SortedIn ltE a e d' → G d') :
    RRun Try.prog Try.f103 134 [.code r103e, .inBlock 1, .inLoop r103l0, .inBlock 0] (Env.get [(0, slAt q 0 n cap), (1, i64 a), (2, i64 e), (3, i64 limit), (10, i64 (e - a : Nat)), (11, i64 pivot)]) (HL h q d.toList sp) (fun _ h' => ∃ d', G d' ∧ h' = HL h q d'.toList sp) := by
  unfold r103e
  repeat' (first | (refine S.op rfl ?_; first | refine R.mv rfl ?_) | refine S.seq ?_ | refine S.region ?_)
  refine S.op rfl (R.call rfl rfl ((partition_spec q cap n a e pivot sp h (by omega) he (by omega) hap hpe d hd).mono ?_))
  rintro x1 h1 ⟨mid, ap, d4, hx, rfl, rfl, hd4⟩
  obtain ⟨m1, m2, m3, m4, m5, m6, m7⟩ := Go.Sort.round_part swo_ltE (Go.Sort.partition_holds ltE) hap hpe (by omega) hB hx
  by_cases hlr : mid - a < e - mid
  ·
    repeat' (first | refine S.nilK ?_ | (refine S.op rfl ?_; first | refine S.subNN rfl rfl (by omega) (by omega) ?_ | refine S.quoNN (n := 8) rfl rfl (by decide) (by omega) ?_ | refine R.mv rfl ?_ | refine R.extract rfl rfl ?_ | ((first | refine S.lss rfl rfl ?_ ?_ | refine S.geq rfl rfl ?_ ?_) <;> intro hlt <;> try (exfalso; omega))) | refine S.seq ?_ | refine S.region ?_ | refine S.condT rfl ?_)
    all_goals
      refine S.op rfl (R.call rfl rfl ((pdq_call hA a mid limit d4 (by omega) m1 (by omega) hd4 m4 hl).mono ?_))
      rintro x2 h2 ⟨d5, ⟨g1, g2, g3⟩, rfl⟩
      obtain ⟨k1, k2⟩ := m6 d5 g2 g3
      repeat' (first | refine S.nilK ?_ | (refine S.op rfl ?_; first | refine S.addNN (n := 1) rfl rfl (by omega) ?_ | refine R.mv rfl ?_) | refine S.region ?_ | refine RRun.inBlock ?_)
      exact S.keep [0, 1, 2, 3, 8, 9] rfl (hA (mid + 1) e d5 G (by omega) (by omega) he g1 k1 (fun d' s1 s2 s3 => hR d' s1 (k2 d' s2 s3).1 (k2 d' s2 s3).2) limit _ ap hl)
  ·
    repeat' (first | refine S.nilK ?_ | (refine S.op rfl ?_; first | refine S.addNN (n := 1) rfl rfl (by omega) ?_ | refine S.subNN rfl rfl (by omega) (by omega) ?_ | refine S.quoNN (n := 8) rfl rfl (by decide) (by omega) ?_ | refine R.mv rfl ?_ | refine R.extract rfl rfl ?_ | ((first | refine S.lss rfl rfl ?_ ?_ | refine S.geq rfl rfl ?_ ?_) <;> intro hlt <;> try (exfalso; omega))) | refine S.seq ?_ | refine S.region ?_ | refine S.condF rfl ?_)
    all_goals
      refine S.op rfl (R.call rfl rfl ((pdq_call hA (mid + 1) e limit d4 (by omega) (by omega) he hd4 m5 hl).mono ?_))
      rintro x2 h2 ⟨d5, ⟨g1, g2, g3⟩, rfl⟩
      obtain ⟨k1, k2⟩ := m7 d5 g2 g3
      repeat' (first | refine S.nilK ?_ | (refine S.op rfl ?_; first | refine R.mv rfl ?_) | refine S.region ?_ | refine RRun.inBlock ?_)
      exact S.keep [0, 1, 2, 3, 8, 9] rfl (hA a mid d5 G (by omega) (by omega) (by omega) g1 k1 (fun d' s1 s2 s3 => hR d' s1 (k2 d' s2 s3).1 (k2 d' s2 s3).2) limit _ ap hl)
theorem pdq_D {q cap n f : Nat} {sp : List AV} {h : AHeap} (hA : PdqAll q cap n sp h f) (hn : n ≤ 49) (a e pivot limit : Nat) (wB wP : Bool) (d : Array SE) (G : Array SE → Prop) (hf : e - a ≤ f) (hap : a ≤ pivot) (hpe : pivot < e) (he : e ≤ n) (hd : d.size = n) (hB : Below ltE a e d) (hl : limit ≤ 100)
    (hR : ∀ d', d'.size = n → PermIn a e d d' → SortedIn ltE a e d' → G d') :
    RRun Try.prog Try.f103 134 [.code r103d, .inBlock 1, .inLoop r103l0, .inBlock 0] (Env.get [(0, slAt q 0 n cap), (1, i64 a), (2, i64 e), (3, i64 limit), (8, bl wB), (9, bl wP), (10, i64 (e - a : Nat)), (11, i64 pivot)]) (HL h q d.toList sp) (fun _ h' => ∃ d', G d' ∧ h' = HL h q d'.toList sp) := by
  unfold r103d
  by_cases ha0 : a > 0
  · cases hnl : ltE d[a - 1]! d[pivot]! with
    | true =>
      repeat' (first | ((show RRun _ _ _ (.code r103e :: _) _ _ _; exact S.keep [0, 1, 2, 3, 10, 11] rfl (pdq_E hA hn a e pivot limit d G hf hap hpe he hd hB hl hR))) | refine S.nilK ?_ | (refine S.op rfl ?_; first | refine S.subNN (n := 1) rfl rfl (by omega) (by omega) ?_ | refine S.ix rfl rfl (by omega) ?_ | refine S.ldE (by decide) rfl (by omega) ?_ | refine callS rfl rfl (less_is hnl _) ?_ | refine R.mv rfl ?_ | refine R.pickT rfl rfl ?_ | refine R.not rfl ?_ | ((first | refine S.gtr rfl rfl ?_ ?_) <;> intro hlt <;> try (exfalso; omega))) | refine S.seq ?_ | refine S.region ?_ | refine S.condF rfl ?_ | refine RRun.skip ?_)
    | false =>
      repeat' (first | refine S.nilK ?_ | (refine S.op rfl ?_; first | refine S.subNN (n := 1) rfl rfl (by omega) (by omega) ?_ | refine S.ix rfl rfl (by omega) ?_ | refine S.ldE (by decide) rfl (by omega) ?_ | refine callS rfl rfl (less_is hnl _) ?_ | refine R.mv rfl ?_ | refine R.pickT rfl rfl ?_ | refine R.not rfl ?_ | ((first | refine S.gtr rfl rfl ?_ ?_) <;> intro hlt <;> try (exfalso; omega))) | refine S.seq ?_ | refine S.region ?_ | refine S.condT rfl ?_)
      refine S.op rfl (R.call rfl rfl ((partitionEqual_spec q cap n a e pivot sp h (by omega) he (by omega) hap hpe d hd).mono ?_))
      rintro x1 h1 ⟨mid, d4, hx, rfl, rfl, hd4⟩
      obtain ⟨m1, m2, m3, m4, m5⟩ := Go.Sort.round_eq swo_ltE (Go.Sort.partitionEqual_holds ltE) ha0 hap hpe (by omega) hB hnl hx
      repeat' (first | refine S.nilK ?_ | (refine S.op rfl ?_; first | refine R.mv rfl ?_) | refine S.seq ?_ | refine S.region ?_ | refine RRun.exit rfl ?_)
      exact S.keep [0, 1, 2, 3, 8, 9] rfl (hA mid e d4 G (by omega) (by omega) he hd4 m4 (fun d' s1 s2 s3 => hR d' s1 (m5 d' s2 s3).1 (m5 d' s2 s3).2) limit wB wP hl)
  ·
    repeat' (first | ((show RRun _ _ _ (.code r103e :: _) _ _ _; exact S.keep [0, 1, 2, 3, 10, 11] rfl (pdq_E hA hn a e pivot limit d G hf hap hpe he hd hB hl hR))) | refine S.nilK ?_ | (refine S.op rfl ?_; first | refine R.mv rfl ?_ | refine R.pickF rfl rfl ?_ | ((first | refine S.gtr rfl rfl ?_ ?_) <;> intro hlt <;> try (exfalso; omega))) | refine S.skip rfl ?_ | refine S.seq ?_ | refine S.region ?_ | refine S.condF rfl ?_ | refine RRun.skip ?_)
theorem pdq_C {q cap n f : Nat} {sp : List AV} {h : AHeap} (hA : PdqAll q cap n sp h f) (hn : n ≤ 49) (a e pivot limit t : Nat) (wB wP : Bool) (d : Array SE) (G : Array SE → Prop) (hf : e - a ≤ f) (hap : a ≤ pivot) (hpe : pivot < e) (he : e ≤ n) (hd : d.size = n) (hB : Below ltE a e d) (hl : limit ≤ 100)
    (hR : ∀ d', d'.size = n → PermIn a e d d' → SortedIn ltE a e d' → G d') :
    RRun Try.prog Try.f103 134 [.code r103c, .inBlock 1, .inLoop r103l0, .inBlock 0] (Env.get [(0, slAt q 0 n cap), (1, i64 a), (2, i64 e), (3, i64 limit), (8, bl wB), (9, bl wP), (10, i64 (e - a : Nat)), (11, i64 pivot), (12, i64 t)]) (HL h q d.toList sp) (fun _ h' => ∃ d', G d' ∧ h' = HL h q d'.toList sp) := by
  unfold r103c
  have next := pdq_D hA hn a e pivot limit wB wP d G hf hap hpe he hd hB hl hR
  by_cases ht : t = 1
  · subst ht
    cases wB <;> cases wP
    ·
      repeat' (first | ((show RRun _ _ _ (.code r103d :: _) _ _ _; exact S.keep [0, 1, 2, 3, 8, 9, 10, 11] rfl next)) | refine S.nilK ?_ | (refine S.op rfl ?_; first | refine R.mv rfl ?_ | refine R.pickF rfl rfl ?_) | refine S.skip rfl ?_ | refine S.seq ?_ | refine S.region ?_ | refine S.condF rfl ?_ | refine RRun.skip ?_)
    ·
      repeat' (first | ((show RRun _ _ _ (.code r103d :: _) _ _ _; exact S.keep [0, 1, 2, 3, 8, 9, 10, 11] rfl next)) | refine S.nilK ?_ | (refine S.op rfl ?_; first | refine R.mv rfl ?_ | refine R.pickF rfl rfl ?_) | refine S.skip rfl ?_ | refine S.seq ?_ | refine S.region ?_ | refine S.condF rfl ?_ | refine RRun.skip ?_)
    ·
      repeat' (first | ((show RRun _ _ _ (.code r103d :: _) _ _ _; exact S.keep [0, 1, 2, 3, 8, 9, 10, 11] rfl next)) | refine S.nilK ?_ | (refine S.op rfl ?_; first | refine R.mv rfl ?_ | refine R.pickT rfl rfl ?_ | refine R.pickF rfl rfl ?_) | refine S.skip rfl ?_ | refine S.seq ?_ | refine S.region ?_ | refine S.condF rfl ?_ | refine RRun.skip ?_)
    ·
      repeat' (first | refine S.nilK ?_ | (refine S.op rfl ?_; first | refine R.mv rfl ?_ | refine R.pickT rfl rfl ?_ | ((first | refine S.eqInt rfl rfl ?_ ?_) <;> intro hlt <;> try (exfalso; omega))) | refine S.seq ?_ | refine S.region ?_ | refine S.condT rfl ?_)
      refine S.op rfl (R.call rfl rfl ((partialIns_spec q cap n a e sp h (by omega) he (by omega) (by omega) d hd hB).mono ?_))
      rintro x1 h1 ⟨⟨r, rfl, hr⟩, rfl⟩
      cases r
      ·
        repeat' (first | ((show RRun _ _ _ (.code r103d :: _) _ _ _; exact S.keep [0, 1, 2, 3, 8, 9, 10, 11] rfl next)) | refine S.nilK ?_ | refine S.condF rfl ?_ | refine RRun.skip ?_)
      ·
        repeat' (first | refine S.nilK ?_ | refine S.condT rfl ?_)
        apply S.ret rr103
        case hx => repeat (first | exact ResAt.nil)
        exact ⟨d, hR d hd (Go.Sort.permIn_refl _ _ _) (hr rfl), rfl⟩
  · cases wB <;> cases wP
    all_goals
      repeat' (first | ((show RRun _ _ _ (.code r103d :: _) _ _ _; exact S.keep [0, 1, 2, 3, 8, 9, 10, 11] rfl next)) | refine S.nilK ?_ | (refine S.op rfl ?_; first | refine R.mv rfl ?_ | refine R.pickT rfl rfl ?_ | refine R.pickF rfl rfl ?_ | ((first | refine S.eqInt rfl rfl ?_ ?_) <;> intro hlt <;> try (exfalso; omega))) | refine S.skip rfl ?_ | refine S.seq ?_ | refine S.region ?_ | refine S.condF rfl ?_ | refine RRun.skip ?_)
theorem pdq_B {q cap n f : Nat} {sp : List AV} {h : AHeap} (hA : PdqAll q cap n sp h f) (hn : n ≤ 49) (a e pivot limit t : Nat) (wB wP : Bool) (d : Array SE) (G : Array SE → Prop) (hf : e - a ≤ f) (hap : a ≤ pivot) (hpe : pivot < e) (he : e ≤ n) (hd : d.size = n) (hB : Below ltE a e d) (hl : limit ≤ 100)
    (hR : ∀ d', d'.size = n → PermIn a e d d' → SortedIn ltE a e d' → G d') :
    RRun Try.prog Try.f103 134 [.code r103b, .inBlock 1, .inLoop r103l0, .inBlock 0] (Env.get [(0, slAt q 0 n cap), (1, i64 a), (2, i64 e), (3, i64 limit), (8, bl wB), (9, bl wP), (10, i64 (e - a : Nat)), (11, i64 pivot), (12, i64 t)]) (HL h q d.toList sp) (fun _ h' => ∃ d', G d' ∧ h' = HL h q d'.toList sp) := by
  unfold r103b
  by_cases ht : t = 2
  · have hp := Go.Sort.reverseRange_holds d a e (by omega) (by omega)
    have hs : (Go.Sort.reverseRange d a e).size = n := by rw [hp.1]; exact hd
    have next := pdq_C hA hn a e (e - 1 - (pivot - a)) limit 1 wB wP _ G hf (by omega) (by omega) he hs (hB.perm (by omega) hp) hl (fun d' s1 s2 s3 => hR d' s1 (Go.Sort.permIn_trans _ _ _ _ _ hp s2) s3)
    repeat' (first | ((show RRun _ _ _ (.code r103c :: _) _ _ _; exact S.keep [0, 1, 2, 3, 8, 9, 10, 11, 12] rfl next)) | refine S.nilK ?_ | (refine S.op rfl ?_; first | refine S.subNN (n := 1) rfl rfl (by omega) (by omega) ?_ | refine S.subNN rfl rfl (by omega) (by omega) ?_ | refine callU rfl rfl (reverseRange_spec q cap n a e sp h (by omega) he (by omega) d hd) (fun x => ?_) | refine R.mv rfl ?_ | ((first | refine S.eqInt rfl rfl ?_ ?_) <;> intro hlt <;> try (exfalso; omega))) | refine S.seq ?_ | refine S.region ?_ | refine S.condT rfl ?_)
  · have next := pdq_C hA hn a e pivot limit t wB wP d G hf hap hpe he hd hB hl hR
    repeat' (first | ((show RRun _ _ _ (.code r103c :: _) _ _ _; exact S.keep [0, 1, 2, 3, 8, 9, 10, 11, 12] rfl next)) | refine S.nilK ?_ | (refine S.op rfl ?_; first | refine R.mv rfl ?_ | ((first | refine S.eqInt rfl rfl ?_ ?_) <;> intro hlt <;> try (exfalso; omega))) | refine S.seq ?_ | refine S.region ?_ | refine S.condF rfl ?_ | refine RRun.skip ?_)
theorem pdq_all (q cap n : Nat) (sp : List AV) (h : AHeap) (hn : n ≤ 49) : ∀ f, PdqAll q cap n sp h f := by
  intro f
  induction f with
  | zero => intro a e d G hf; omega
  | succ f ih =>
    intro a e d G hf ha he hd hB hR limit wB wP hl
    refine RRun.inLoop ?_
    by_cases h12 : e - a ≤ 12
    · have hp := Go.Sort.insertionSort_holds swo_ltE d a e ha (by omega)
      repeat' (first | refine S.nilK ?_ | (refine S.op rfl ?_; first | refine S.subNN rfl rfl (by omega) (by omega) ?_ | refine callU rfl rfl (insertionSort_spec q cap n a e sp h (by omega) he (by omega) d hd) (fun x => ?_) | refine R.mv rfl ?_ | ((first | refine S.leq rfl rfl ?_ ?_) <;> intro hlt <;> try (exfalso; omega))) | refine S.seq ?_ | refine S.region ?_ | refine S.condT rfl ?_ | refine RRun.block ?_)
      apply S.ret rr103
      case hx => repeat (first | exact ResAt.nil)
      exact ⟨_, hR _ (by rw [hp.1.1]; exact hd) hp.1 hp.2, rfl⟩
    · by_cases hl0 : limit = 0
      · have hp := Go.Sort.heapSort_holds swo_ltE d a e ha (by omega)
        repeat' (first | refine S.nilK ?_ | (refine S.op rfl ?_; first | refine S.subNN rfl rfl (by omega) (by omega) ?_ | refine callU rfl rfl (heapSort_spec q cap n a e sp h (by omega) he (by omega) d hd (by omega)) (fun x => ?_) | refine R.mv rfl ?_ | ((first | refine S.leq rfl rfl ?_ ?_ | refine S.eqInt rfl rfl ?_ ?_) <;> intro hlt <;> try (exfalso; omega))) | refine S.seq ?_ | refine S.region ?_ | refine S.condT rfl ?_ | refine S.condF rfl ?_ | refine RRun.skip ?_ | refine RRun.block ?_)
        apply S.ret rr103
        case hx => repeat (first | exact ResAt.nil)
        exact ⟨_, hR _ (by rw [hp.1.1]; exact hd) hp.1 hp.2, rfl⟩
      · cases wB with
        | true =>
          repeat' (first | refine S.nilK ?_ | (refine S.op rfl ?_; first | refine S.subNN rfl rfl (by omega) (by omega) ?_ | refine R.mv rfl ?_ | refine R.not rfl ?_ | ((first | refine S.leq rfl rfl ?_ ?_ | refine S.eqInt rfl rfl ?_ ?_) <;> intro hlt <;> try (exfalso; omega))) | refine S.seq ?_ | refine S.region ?_ | refine S.condF rfl ?_ | refine RRun.skip ?_ | refine RRun.block ?_)
          refine S.op rfl (R.call rfl rfl ((choosePivot_spec q cap n a e sp h (by omega) he (by omega) (by omega) d hd).mono ?_))
          rintro x1 h1 ⟨⟨r, t, rfl, r1, r2, r3⟩, rfl⟩
          repeat' (first | ((show RRun _ _ _ (.code r103b :: _) _ _ _; exact S.keep [0, 1, 2, 3, 8, 9, 10, 11, 12] rfl (pdq_B ih hn a e r limit t true wP d G (by omega) r1 r2 he hd hB hl hR))) | (refine S.op rfl ?_; first | refine R.mv rfl ?_ | refine R.extract rfl rfl ?_))
        | false =>
          repeat' (first | refine S.nilK ?_ | (refine S.op rfl ?_; first | refine S.subNN rfl rfl (by omega) (by omega) ?_ | refine R.mv rfl ?_ | refine R.not rfl ?_ | ((first | refine S.leq rfl rfl ?_ ?_ | refine S.eqInt rfl rfl ?_ ?_) <;> intro hlt <;> try (exfalso; omega))) | refine S.seq ?_ | refine S.region ?_ | refine S.condT rfl ?_ | refine S.condF rfl ?_ | refine RRun.skip ?_ | refine RRun.block ?_)
          refine S.op rfl (R.call rfl rfl ((breakPatterns_spec q cap n a e sp h (by omega) he ha (by omega) d hd).mono ?_))
          rintro x0 h0 ⟨d1, hd1, hp1, rfl⟩
          repeat' (first | refine S.nilK ?_ | (refine S.op rfl ?_; first | refine S.subNN (n := 1) rfl rfl (by omega) (by omega) ?_ | refine R.mv rfl ?_) | refine S.seq ?_ | refine S.region ?_)
          refine S.op rfl (R.call rfl rfl ((choosePivot_spec q cap n a e sp h (by omega) he (by omega) (by omega) d1 hd1).mono ?_))
          rintro x1 h1 ⟨⟨r, t, rfl, r1, r2, r3⟩, rfl⟩
          repeat' (first | ((show RRun _ _ _ (.code r103b :: _) _ _ _; exact S.keep [0, 1, 2, 3, 8, 9, 10, 11, 12] rfl (pdq_B ih hn a e r (limit - 1) t false wP d1 G (by omega) r1 r2 he hd1 (hB.perm (by omega) hp1) (by omega) (fun d' s1 s2 s3 => hR d' s1 (Go.Sort.permIn_trans _ _ _ _ _ hp1 s2) s3)))) | (refine S.op rfl ?_; first | refine R.mv rfl ?_ | refine R.extract rfl rfl ?_))
theorem pdqsort_spec (q cap n limit : Nat) (sp : List AV) (h : AHeap) (hn : n ≤ 49) (hl : limit ≤ 100) (d : Array SE) (hd : d.size = n) :
    ACalls Try.prog 103 [slAt q 0 n cap, i64 (0 : Nat), i64 n, i64 limit] (HL h q d.toList sp) (fun _ h' => ∃ d', (d'.size = n ∧ PermIn 0 n d d' ∧ SortedIn ltE 0 n d') ∧ h' = HL h q d'.toList sp) :=
  pdq_call (pdq_all q cap n sp h hn (n + 1)) 0 n limit d (by omega) (by omega) (by omega) hd (.inl rfl) hl
end Go.Proofs.Ytnmgamcmjjngcaa

namespace Go.Proofs.Ytnmgamcmjjngcaa
open Go.Av
open Go.Sort (swp PermIn SortedIn Below SWO)
def r98l0 : RCode :=
  (.seq (.region [
    ⟨(some 8), none, .act, .bin .lss (.tmp 7) (.tmp 6)⟩])
  (.seq (.cond (.tmp 8)
   .skip
   (.exit 0))
  (.seq (.block 1
   (.seq (.region [
     ⟨(some 9), none, .act, .indexAddr 1 (.tmp 5) (.tmp 7)⟩,
     ⟨(some 10), none, .act, .load false 1 (.tmp 9)⟩,
     ⟨(some 4), none, .act, .mv (.tmp 10)⟩])
   (.seq (.region [
     ⟨(some 11), none, .act, .mv (.tmp 0)⟩,
     ⟨(some 12), none, .act, .mv (.tmp 4)⟩,
     ⟨(some 13), none, .act, .callv (.tmp 11) [(.tmp 12)]⟩,
     ⟨(some 14), none, .act, .un .not (.tmp 13)⟩])
   (.cond (.tmp 14)
    .ret
    .skip))))
  (.region [
    ⟨(some 15), none, .act, .bin .add (.tmp 7) (.const (.int .i64 1))⟩,
    ⟨(some 7), none, .act, .mv (.tmp 15)⟩]))))
def r98 : RCode :=
  (.seq (.region [
    ⟨(some 5), none, .act, .load false 1 (.tmp 1)⟩,
    ⟨(some 6), none, .act, .len (.tmp 5)⟩,
    ⟨(some 7), none, .act, .mv (.const (.int .i64 0))⟩])
  (.block 0
   (.loop r98l0)))
theorem res98 : ∃ c, Try.f98.body = some c ∧ resCode Try.prog 16 c = some r98 := ⟨_, rfl, by kernel_rfl⟩
theorem rr98 : resRes Try.prog Try.f98.results.toList = some [] := by kernel_rfl
theorem values_loop (lst : List UInt64) (hlen : lst.length ≤ 1000000) (l q : Nat) (h0 : AHeap) (C0 : Nat → Prop) (I : Nat → (Nat → Prop) → AHeap → Prop) (hI : ∀ j, Client (I j))
    (hy : ∀ j v, lst[j]? = some v → ∀ C h, I j C h → YStep Try.prog l [enc v] C h (I (j + 1)) (fun _ _ => False)) (Q : AV → AHeap → Prop)
    (hQ : ∀ x C h, I lst.length C h → (∀ x o, h0 x = some o → ¬ C0 x → h x = some o) → (∀ x, C x → C0 x ∨ h0 x = none) → Q x h) : ∀ (m j : Nat) (C : Nat → Prop) (g : AHeap), j + m = lst.length → I j C g →
    (∀ x o, h0 x = some o → ¬ C0 x → g x = some o) → (∀ x, C x → C0 x ∨ h0 x = none) →
    RRun Try.prog Try.f98 16 [.inLoop r98l0, .inBlock 0] (Env.get [(0, yieldV l), (5, u64s lst), (6, i64 lst.length), (7, i64 j)]) g Q := by
  have hla : (lst.map fun x => [enc x]).length = lst.length := by simp
  intro m
  induction m with
  | zero =>
    intro j C g hj hIg hF hC
    refine RRun.inLoop ?_
    repeat' (first | refine S.nilK ?_ | (refine S.op rfl ?_; first | ((first | refine S.lss rfl rfl ?_ ?_) <;> intro hlt <;> try (exfalso; omega))) | refine S.seq ?_ | refine S.region ?_ | refine S.condF rfl ?_ | refine RRun.exit rfl ?_)
    apply S.done rr98
    case hx => repeat (first | exact ResAt.nil)
    exact hQ _ C g (by rw [show lst.length = j by omega]; exact hIg) hF hC
  | succ m ih =>
    intro j C g hj hIg hF hC
    have hlt : j < lst.length := by omega
    obtain ⟨v, hv⟩ : ∃ v, lst[j]? = some v := ⟨lst[j], List.getElem?_eq_getElem hlt⟩
    have hga : (lst.map fun x => [enc x])[((j : Nat) : Int).toNat]? = some [enc v] := by simp only [Int.toNat_natCast, List.getElem?_map, hv]; rfl
    refine RRun.inLoop ?_
    repeat' (first | refine S.nilK ?_ | (refine S.op rfl ?_; first | refine R.indexAddr (cc := .ro) (es := lst.map fun x => [enc x]) rfl rfl (by omega) hga ?_ | refine R.mv rfl ?_ | refine R.loadR rfl rfl ?_ | ((first | refine S.lss rfl rfl ?_ ?_) <;> intro hlt <;> try (exfalso; omega))) | refine S.seq ?_ | refine S.region ?_ | refine S.condT rfl ?_ | refine RRun.skip ?_ | refine RRun.block ?_)
    refine S.op rfl (R.yield rfl rfl rfl ((hy j v hv C g hIg).mono ?_))
    rintro bb h' ⟨C', hC', hft, hbb⟩
    cases bb with
    | false => exact absurd hbb (by simp)
    | true =>
      repeat' (first | refine S.nilK ?_ | (refine S.op rfl ?_; first | refine R.mv rfl ?_ | refine S.addI rfl rfl (by omega) ?_ | refine R.not rfl ?_) | refine S.region ?_ | refine S.condF rfl ?_ | refine RRun.skip ?_ | refine RRun.inBlock ?_)
      rw [show ((j : Int) + 1) = ((j + 1 : Nat) : Int) by omega]
      refine S.keep [0, 5, 6, 7] rfl (ih (j + 1) C' h' (by omega) hbb (fun x o e hn => hft x o (hF x o e hn) (fun hc => (hC x hc).elim hn (fun e' => by rw [e] at e'; cases e'))) (fun x hx => ?_))
      rcases hC' x hx with hc | hc
      · exact hC x hc
      · cases he : h0 x with
        | none => exact .inr rfl
        | some o =>
          by_cases h0x : C0 x
          · exact .inl h0x
          · have := hF x o he h0x; rw [hc] at this; cases this
theorem values1_spec (lst : List UInt64) (hlen : lst.length ≤ 1000000) (l q : Nat) (h0 : AHeap) (C0 : Nat → Prop) (I : Nat → (Nat → Prop) → AHeap → Prop) (hI : ∀ j, Client (I j))
    (hy : ∀ j v, lst[j]? = some v → ∀ C h, I j C h → YStep Try.prog l [enc v] C h (I (j + 1)) (fun _ _ => False)) (hI0 : I 0 C0 h0) (hq : h0 q = some (.box [u64s lst])) :
    ACalls Try.prog 98 [yieldV l, ptr q] h0 (fun _ h' => ∃ C, I lst.length C h' ∧ (∀ x o, h0 x = some o → ¬ C0 x → h' x = some o) ∧ (∀ x, C x → C0 x ∨ h0 x = none)) := by
  obtain ⟨c, hc1, hc2⟩ := res98
  refine ACalls.enter Try.func98 hc1 Try.ntmps98 hc2 (Nat.le_of_ble_eq_true rfl) rfl ?_
  have hla : (lst.map fun x => [enc x]).length = lst.length := by simp
  repeat' (first | refine S.nilK ?_ | (refine S.op rfl ?_; first | refine R.mv rfl ?_ | refine R.load (by decide) rfl (by (repeat' (first | assumption)); first | done | fail) rfl ?_ | refine R.len rfl ?_) | refine S.seq ?_ | refine S.region ?_ | refine RRun.block ?_)
  rw [hla]
  exact RRun.loopIn (S.keep [0, 5, 6, 7] rfl (values_loop lst hlen l q h0 C0 I hI hy _ (fun x C h h1 h2 h3 => ⟨C, h1, h2, h3⟩) lst.length 0 C0 h0 (by omega) hI0 (fun x o e _ => e) (fun x hx => .inl hx)))
def r87 : RCode :=
  (.seq (.region [
    ⟨(some 1), none, .act, .box (.tmp 0)⟩,
    ⟨(some 2), none, .act, .mv (.const .nilFunc)⟩])
  (.seq (.region [
    ⟨(some 3), none, .act, .makeFunc (.func 98) [] [(.tmp 1)]⟩,
    ⟨(some 2), none, .act, .mv (.tmp 3)⟩])
  .ret))
theorem res87 : ∃ c, Try.f87.body = some c ∧ resCode Try.prog 4 c = some r87 := ⟨_, rfl, by kernel_rfl⟩
theorem rr87 : resRes Try.prog Try.f87.results.toList = some [.tmp 2] := by kernel_rfl
theorem values_fn (lst : List UInt64) (h : AHeap) : ACalls Try.prog 87 [u64s lst] h (fun x h' => ∃ q, h q = none ∧ x = .v (.func (.func 98) #[] #[.pointer (some ⟨q, 0, none⟩)]) ∧ h' = h.set q (.box [u64s lst])) := by
  obtain ⟨c, hc1, hc2⟩ := res87
  refine ACalls.enter Try.func87 hc1 Try.ntmps87 hc2 (Nat.le_of_ble_eq_true rfl) rfl ?_
  repeat' (first | refine S.nilK ?_ | (refine S.op rfl ?_; first | refine R.mv rfl ?_ | refine R.box rfl rfl rfl (fun b hb => ?_) | refine R.makeFunc rfl rfl ?_) | refine S.seq ?_ | refine S.region ?_)
  apply S.ret rr87
  case hx => repeat (first | exact ResAt.nil | apply ResAt.tmp rfl)
  exact ⟨b, hb, rfl, rfl⟩
end Go.Proofs.Ytnmgamcmjjngcaa

namespace Go.Proofs.Ytnmgamcmjjngcaa
open Go.Av
open Go.Sort (swp PermIn SortedIn Below SWO)
def RowG (l : List SE) (d : AV) (B : Nat → Prop) (g : AHeap) : Prop :=
  (l = [] ∧ d = .v (.slice none 0 0) ∧ ∀ x, ¬ B x) ∨ ∃ b cap sp, d = slAt b 0 l.length cap ∧ g b = some (.box (l.map enc ++ sp)) ∧ l.length + sp.length = cap ∧ cap ≤ maxLen ∧ l ≠ [] ∧ ∀ x, B x ↔ x = b
theorem rowG_own {l : List SE} {d : AV} {B : Nat → Prop} {g : AHeap} (h : RowG l d B g) : ∀ x, B x → g x ≠ none := fun x hx => by
  rcases h with ⟨_, _, h⟩ | ⟨b, cap, sp, _, h2, _, _, _, h3⟩
  · exact absurd hx (h x)
  · rw [(h3 x).1 hx, h2]; simp
theorem rowG_loc {l : List SE} {d : AV} {B : Nat → Prop} {g g' : AHeap} (h : RowG l d B g) (hl : ∀ x, B x → g' x = g x) : RowG l d B g' := by
  rcases h with h | ⟨b, cap, sp, h1, h2, h3, h4, h5, h6⟩
  · exact .inl h
  · exact .inr ⟨b, cap, sp, h1, (hl b ((h6 b).2 rfl)).trans h2, h3, h4, h5, h6⟩
theorem rowG_box {l : List SE} {d : AV} {B : Nat → Prop} {g : AHeap} (h : RowG l d B g) {x : Nat} {r : ALoop} (hx : g x = some (.loop r)) : ¬ B x := fun hb => by
  rcases h with ⟨_, _, h⟩ | ⟨b, cap, sp, _, h2, _, _, _, h3⟩
  · exact h x hb
  · rw [(h3 x).1 hb, h2] at hx; cases hx
theorem rowG_cells {l : List SE} {d : AV} {B : Nat → Prop} {g : AHeap} (h : RowG l d B g) : d.cells? = some [d] := by
  rcases h with ⟨_, rfl, _⟩ | ⟨b, cap, sp, rfl, _⟩ <;> rfl
theorem one_num (v : SE) : ∀ e ∈ [[enc v]], ∀ a ∈ e, a.one = true := by
  intro e he a ha
  simp only [List.mem_singleton] at he
  subst he
  simp only [List.mem_singleton] at ha
  subst ha; rfl
theorem over_app1 (A S : List AV) (X : AV) (n : Nat) (hn : n = A.length) : over (A ++ S) n [X] = A ++ [X] ++ S.drop 1 := by
  subst hn
  unfold over
  rw [List.take_left, List.drop_append, List.drop_of_length_le (by simp), List.nil_append]
  simp
theorem S.pushU {P : Program} {c : Cls} {E : AEnv} {g : AHeap} {K : AV → AHeap → Prop} {zero : List Value} {x y : Operand} {d y' : AV} {l : List SE} {v : SE} {B : Nat → Prop} (hc : c = .act) (hr : RowG l d B g) (hx : aev E x = some d) (hy : aev E y = some y') (hs : Go.Av.Src 1 y' [[enc v]]) (hl : l.length ≤ 1000000)
    (hk : ∀ d' B' g', RowG (l ++ [v]) d' B' g' → (∀ x o, g x = some o → ¬ B x → g' x = some o) → (∀ x, B' x → B x ∨ g x = none) → K d' g') : ROpS P c (.append 1 8 zero x y) E g K := by
  rcases hr with ⟨rfl, rfl, h1⟩ | ⟨b, cap, sp, rfl, h1, h2, h3, h4, h5⟩
  · refine R.appendBox hc hx .nil hy hs (one_num v) (by simp) (by simp) (by simp) (fun p cap hp hc1 hc2 => hk _ (fun x => x = p) _ (.inr ⟨p, cap, List.replicate ((cap - 1) * 1) .any, rfl, ?_, ?_, hc2, by simp, fun x => Iff.rfl⟩) ?_ ?_)
    · exact AHeap.set_same _ _ _
    · simp at hc1 ⊢; omega
    · intro x o e _; exact AHeap.get_fresh hp e
    · rintro x rfl; exact .inr hp
  · refine R.appendOwn hc hx h1 (by simp; omega) (by omega) hy hs (one_num v) (by simp) (by simp; omega) (by simp; omega) (fun hroom => ?_) (fun p' cap' hp' hc1 hc2 => ?_)
    · refine hk _ (fun x => x = b) _ (.inr ⟨b, cap, sp.drop 1, ?_, ?_, ?_, h3, by simp, fun x => Iff.rfl⟩) ?_ ?_
      · simp
      · rw [AHeap.set_same]
        have := over_app1 (l.map enc) sp (enc v) (0 + l.length * 1) (by simp)
        simp only [List.flatten_cons, List.flatten_nil, List.append_nil]
        rw [this]; simp
      · simp at hroom ⊢; omega
      · intro x o e hn
        rw [AHeap.set_other _ _ (fun e' => hn ((h5 x).2 e'))]; exact e
      · intro x hx; exact .inl ((h5 x).2 hx)
    · refine hk _ (fun x => x = p') _ (.inr ⟨p', cap', List.replicate ((cap' - (l.length + 1)) * 1) .any, ?_, ?_, ?_, hc2, by simp, fun x => Iff.rfl⟩) ?_ ?_
      · simp
      · rw [AHeap.set_same]; simp
      · simp at hc1 ⊢; omega
      · intro x o e hn; exact AHeap.get_fresh hp' e
      · rintro x rfl; exact .inr hp'
def r102b0 : RCode :=
  (.block 1
   (.region [
     ⟨(some 8), none, .act, .load false 1 (.tmp 2)⟩,
     ⟨(some 9), none, .act, .mv (.tmp 5)⟩,
     ⟨(some 10), none, .act, .buildSl 1 [(.int .u64 0)] 1 [(0, (.tmp 9))]⟩,
     ⟨(some 11), none, .act, .append 1 8 [(.int .u64 0)] (.tmp 8) (.tmp 10)⟩,
     ⟨none, none, .act, .store 1 (.tmp 2) (.tmp 11)⟩]))
def r102 : RCode :=
  (.seq (.region [
    ⟨(some 2), none, .act, .box (.tmp 0)⟩,
    ⟨(some 4), none, .act, .mv (.const (.slice none 0 0))⟩])
  (.seq (.seq (.region [
    ⟨(some 6), none, .act, .mv (.tmp 1)⟩])
  (.block 0
   (.rangeFunc (.tmp 6) #[7] (.region [
    ⟨(some 5), none, .act, .mv (.tmp 7)⟩]) r102b0)))
  (.seq (.region [
    ⟨(some 12), none, .act, .load false 1 (.tmp 2)⟩,
    ⟨(some 4), none, .act, .mv (.tmp 12)⟩])
  .ret)))
theorem res102 : ∃ c, Try.f102.body = some c ∧ resCode Try.prog 13 c = some r102 := ⟨_, rfl, by kernel_rfl⟩
theorem rr102 : resRes Try.prog Try.f102.results.toList = some [.tmp 4] := by kernel_rfl
def asgSeq : RCode := .region [⟨(some 5), none, .act, .mv (.tmp 7)⟩]
def AsI (L : List (Nat × AV)) (cx cy : Code) (lst : List UInt64) (l p : Nat) (k : Nat) (C : Nat → Prop) (h : AHeap) : Prop :=
  k ≤ lst.length ∧ h l = some (.loop (loop0 L 13 #[7] cx cy)) ∧ ∃ d B, h p = some (.box [d]) ∧ RowG (lst.take k) d B h ∧ ¬ B l ∧ ¬ B p ∧ ∀ x, C x ↔ (x = l ∨ x = p ∨ B x)
theorem asI_client (L : List (Nat × AV)) (cx cy : Code) (lst : List UInt64) (l p : Nat) (k : Nat) : Client (AsI L cx cy lst l p k) where
  own := by
    rintro C h ⟨_, h1, d, B, h2, h3, _, _, h4⟩ x hx
    rcases (h4 x).1 hx with rfl | rfl | hb
    · rw [h1]; simp
    · rw [h2]; simp
    · exact rowG_own h3 x hb
  loc := by
    rintro C h h' ⟨h0, h1, d, B, h2, h3, h5, h6, h4⟩ hl
    refine ⟨h0, ?_, d, B, ?_, rowG_loc h3 fun x hx => hl x ((h4 x).2 (.inr (.inr hx))), h5, h6, h4⟩
    · rw [hl l ((h4 l).2 (.inl rfl))]; exact h1
    · rw [hl p ((h4 p).2 (.inr (.inl rfl)))]; exact h2
theorem as_round (clo : AV) (cx cy : Code) (lst : List UInt64) (hlen : lst.length ≤ 1000000) (l p : Nat) (hlp : l ≠ p) (hx : Resd Try.prog 13 cx asgSeq) (hy : Resd Try.prog 13 cy r102b0)
    (k : Nat) (v : UInt64) (hv : lst[k]? = some v) (C : Nat → Prop) (h : AHeap) (hI : AsI [(6, clo), (2, ptr p)] cx cy lst l p k C h) (Z : (Nat → Prop) → AHeap → Prop) :
    YStep Try.prog l [enc v] C h (AsI [(6, clo), (2, ptr p)] cx cy lst l p (k + 1)) Z := by
  obtain ⟨hk, h1, d, B, h2, h3, h5, h6, h4⟩ := hI
  have hkl : k < lst.length := (List.getElem?_eq_some_iff.1 hv).1
  have htl : (lst.take k).length = k := by simp; omega
  have hpl := Ne.symm hlp
  refine AYield.mk h1 hx hy rfl rfl rfl ?_
  unfold asgSeq
  repeat' (first | (refine S.begin (by (repeat' (first | assumption)); first | done | fail) rfl ?_) | (refine S.op rfl ?_; first | refine R.mv rfl ?_ | refine R.load (by decide) rfl (by (repeat' (first | assumption | refine AHeap.so ?_ ?_)); first | done | fail) rfl ?_ | refine R.buildSl rfl rfl rfl (by decide) ?_) | refine S.region ?_ | refine RRun.block ?_)
  have h3' : RowG (lst.take k) d B (h.set l (.loop { loop0 [(6, clo), (2, ptr p)] 13 #[7] cx cy with state := .busy })) := rowG_loc h3 fun x hx => AHeap.set_other _ _ (fun e => h5 (e ▸ hx))
  refine S.op rfl (S.pushU (v := v) rfl h3' rfl rfl (.sl _ _) (by omega) (fun d' B' g' g1 g2 g3 => ?_))
  have hl' := g2 l _ (AHeap.set_same _ _ _) h5
  have hp' := g2 p _ ((AHeap.set_other _ _ hpl).trans h2) h6
  have hBl : ¬ B' l := rowG_box g1 hl'
  have hBp : ¬ B' p := fun hb => by
    rcases g3 p hb with e | e
    · exact h6 e
    · rw [AHeap.set_other _ _ hpl, h2] at e; cases e
  repeat' (first | (refine S.op0 rfl (R.store rfl rfl hp' rfl (rowG_cells g1) rfl (Nat.le_refl _) ?_)) | refine S.nilK ?_ | refine RRun.inBlock ?_)
  refine RRunG.done ?_
  have htake : lst.take (k + 1) = lst.take k ++ [v] := by rw [List.take_add_one, hv]; rfl
  refine ⟨_, (AHeap.set_other _ _ hlp).trans hl', fun x => (x = l ∨ x = p ∨ B' x), ?_, ?_, ?_⟩
  · rintro x (e | e | e)
    · exact .inl ((h4 x).2 (.inl e))
    · exact .inl ((h4 x).2 (.inr (.inl e)))
    · rcases g3 x e with q | q
      · exact .inl ((h4 x).2 (.inr (.inr q)))
      · exact .inr (AHeap.z1 q)
  · intro x o e hn
    have hn' : ¬ (x = l ∨ x = p ∨ B x) := fun q => hn ((h4 x).2 q)
    have x1 : x ≠ l := fun e => hn' (.inl e)
    have x2 : x ≠ p := fun e => hn' (.inr (.inl e))
    rw [AHeap.set_other _ _ x1, AHeap.set_other _ _ x2]
    exact g2 x o ((AHeap.set_other _ _ x1).trans e) (fun q => hn' (.inr (.inr q)))
  · show AsI _ _ _ _ _ _ _ _ _
    refine ⟨hkl, AHeap.set_same _ _ _, d', B', ?_, ?_, hBl, hBp, fun x => Iff.rfl⟩
    · refine (AHeap.set_other _ _ hpl).trans ((AHeap.set_same _ _ _).trans rfl)
    · rw [htake]
      exact rowG_loc g1 fun x hx => by
        have el : x ≠ l := by rintro rfl; exact hBl hx
        have ep : x ≠ p := by rintro rfl; exact hBp hx
        rw [AHeap.set_other _ _ el, AHeap.set_other _ _ ep]
theorem appendSeq_spec (lst : List UInt64) (hlen : lst.length ≤ 1000000) (q : Nat) (h : AHeap) (hq : h q = some (.box [u64s lst])) :
    ACalls Try.prog 102 [.v (.slice none 0 0), .v (.func (.func 98) #[] #[.pointer (some ⟨q, 0, none⟩)])] h (fun x h' => ∃ B, RowG lst x B h' ∧ (∀ y o, h y = some o → h' y = some o) ∧ (∀ y, B y → h y = none)) := by
  obtain ⟨c, hc1, hc2⟩ := res102
  refine ACalls.enter Try.func102 hc1 Try.ntmps102 hc2 (Nat.le_of_ble_eq_true rfl) rfl ?_
  repeat' (first | refine S.nilK ?_ | (refine S.op rfl ?_; first | refine R.mv rfl ?_ | refine R.box rfl rfl rfl (fun b hb => ?_)) | refine S.seq ?_ | refine S.region ?_ | refine RRun.block ?_)
  refine S.keep [6, 2] rfl ?_
  refine S.rangeFunc rfl (FnIs.v 98 #[] #[.pointer (some ⟨q, 0, none⟩)]) (by kernel_rfl) (fun l0 e => by cases e) fun cx cy hx hy l hl => ?_
  have hlb : l ≠ b := (AHeap.fresh_set hl).1
  have fl : h l = none := (AHeap.fresh_set hl).2
  have hqb : q ≠ b := AHeap.ne_of hb hq
  have hql : q ≠ l := AHeap.ne_of fl hq
  generalize hH : AHeap.set _ l (.loop (loop0 _ 13 #[7] cx cy)) = H
  have H0 : ∀ x o, h x = some o → H x = some o := fun x o e => by
    have e1 : x ≠ b := AHeap.ne_of hb e
    have e2 : x ≠ l := AHeap.ne_of fl e
    rw [← hH]; simp only [AHeap.set, e1, e2, if_false]; exact e
  have I0 : AsI [(6, .v (.func (.func 98) #[] #[.pointer (some ⟨q, 0, none⟩)])), (2, ptr b)] cx cy lst l b 0 (fun x => x = l ∨ x = b ∨ False) H := by
    rw [← hH]
    exact ⟨Nat.zero_le _, AHeap.set_same _ _ _, _, fun _ => False, (AHeap.set_other _ _ (Ne.symm hlb)).trans (AHeap.set_same _ _ _), .inl ⟨rfl, rfl, fun _ e => e⟩, fun e => e, fun e => e, fun x => Iff.rfl⟩
  refine (values1_spec lst hlen l q H (fun x => x = l ∨ x = b ∨ False) (AsI [(6, .v (.func (.func 98) #[] #[.pointer (some ⟨q, 0, none⟩)])), (2, ptr b)] cx cy lst l b) (asI_client _ cx cy lst l b) ?_ I0 (H0 q _ hq)).mono ?_
  · intro j v hv C g hg
    exact as_round _ cx cy lst hlen l b hlb hx hy j v hv C g hg _
  · rintro x h' ⟨C, ⟨_, h1, d, B, h2, h3, h5, h6, h4⟩, hF, hC⟩
    rw [List.take_length] at h3
    refine ⟨_, h1, by simp, ?_⟩
    show RRunG _ _ _ _ _ _ _
    have D2 := (AHeap.del_other h' (Ne.symm hlb)).trans h2
    have D3 : RowG lst d B (h'.del l) := rowG_loc h3 fun x hx => AHeap.del_other h' (by rintro rfl; exact h5 hx)
    have HD : ∀ x o, h x = some o → h'.del l x = some o := fun x o e => (AHeap.del_other h' (AHeap.ne_of fl e)).trans (hF x o (H0 x o e) (by
      rintro (e' | e' | e')
      · subst e'; rw [fl] at e; cases e
      · subst e'; rw [hb] at e; cases e
      · exact e'))
    have HB : ∀ x, B x → h x = none := fun x hx => by
      rcases hC x ((h4 x).2 (.inr (.inr hx))) with (e | e | e) | e
      · subst e; exact fl
      · subst e; exact hb
      · exact absurd e id
      · cases he : h x with
        | none => rfl
        | some o => have := H0 x o he; rw [e] at this; cases this
    generalize h'.del l = D at D2 D3 HD ⊢
    repeat' (first | refine S.nilK ?_ | (refine S.op rfl ?_; first | refine R.mv rfl ?_ | refine R.load (by decide) rfl (by (repeat' (first | assumption)); first | done | fail) rfl ?_) | refine S.seq ?_ | refine S.region ?_ | refine RRun.inBlock ?_)
    apply S.ret rr102
    case hx => repeat (first | exact ResAt.nil | apply ResAt.tmp rfl)
    exact ⟨B, D3, HD, HB⟩
def r96 : RCode :=
  (.seq (.region [
    ⟨(some 2), none, .act, .mv (.const (.slice none 0 0))⟩])
  (.seq (.region [
    ⟨(some 3), none, .act, .mv (.tmp 0)⟩,
    ⟨(some 4), none, .act, .call 102 [(.const (.slice none 0 0)), (.tmp 3)]⟩,
    ⟨(some 2), none, .act, .mv (.tmp 4)⟩])
  .ret))
theorem res96 : ∃ c, Try.f96.body = some c ∧ resCode Try.prog 5 c = some r96 := ⟨_, rfl, by kernel_rfl⟩
theorem rr96 : resRes Try.prog Try.f96.results.toList = some [.tmp 2] := by kernel_rfl
theorem collect_spec (lst : List UInt64) (hlen : lst.length ≤ 1000000) (q : Nat) (h : AHeap) (hq : h q = some (.box [u64s lst])) :
    ACalls Try.prog 96 [.v (.func (.func 98) #[] #[.pointer (some ⟨q, 0, none⟩)])] h (fun x h' => ∃ B, RowG lst x B h' ∧ (∀ y o, h y = some o → h' y = some o) ∧ (∀ y, B y → h y = none)) := by
  obtain ⟨c, hc1, hc2⟩ := res96
  refine ACalls.enter Try.func96 hc1 Try.ntmps96 hc2 (Nat.le_of_ble_eq_true rfl) rfl ?_
  repeat' (first | refine S.nilK ?_ | (refine S.op rfl ?_; first | refine R.mv rfl ?_) | refine S.seq ?_ | refine S.region ?_)
  refine S.op rfl (R.call rfl rfl ((appendSeq_spec lst hlen q h hq).mono ?_))
  rintro x h' ⟨B, h1, h2, h3⟩
  repeat' (first | refine S.nilK ?_ | (refine S.op rfl ?_; first | refine R.mv rfl ?_))
  apply S.ret rr96
  case hx => repeat (first | exact ResAt.nil | apply ResAt.tmp rfl)
  exact ⟨B, h1, h2, h3⟩
end Go.Proofs.Ytnmgamcmjjngcaa

namespace Go.Proofs.Ytnmgamcmjjngcaa
open Go.Av
open Go.Sort (swp PermIn SortedIn Below SWO)
theorem ins_nil (h : AHeap) : ACalls Try.prog 107 [.v (.slice none 0 0), i64 (0 : Nat), i64 (0 : Nat)] h (fun _ h' => h' = h) := by
  obtain ⟨c, hc1, hc2⟩ := res107
  refine ACalls.enter Try.func107 hc1 Try.ntmps107 hc2 (Nat.le_of_ble_eq_true rfl) rfl ?_
  repeat' (first | refine S.nilK ?_ | (refine S.op rfl ?_; first | refine R.mv rfl ?_ | refine S.addI rfl rfl (by omega) ?_) | refine S.seq ?_ | refine S.region ?_ | refine RRun.block ?_)
  refine RRun.loopIn (RRun.inLoop ?_)
  repeat' (first | refine S.nilK ?_ | (refine S.op rfl ?_; first | refine R.mv rfl ?_ | ((first | refine S.lss rfl rfl ?_ ?_) <;> intro hlt <;> try (exfalso; omega))) | refine S.seq ?_ | refine S.region ?_ | refine S.condF rfl ?_ | refine RRun.exit rfl ?_)
  apply S.done rr107
  case hx => repeat (first | exact ResAt.nil)
  rfl
theorem pdq_nil (lim : Nat) (h : AHeap) : ACalls Try.prog 103 [.v (.slice none 0 0), i64 (0 : Nat), i64 (0 : Nat), i64 lim] h (fun _ h' => h' = h) := by
  obtain ⟨c, hc1, hc2⟩ := res103
  refine ACalls.enter Try.func103 hc1 Try.ntmps103 hc2 (Nat.le_of_ble_eq_true rfl) rfl ?_
  repeat' (first | refine S.nilK ?_ | (refine S.op rfl ?_; first | refine R.mv rfl ?_) | refine S.seq ?_ | refine S.region ?_ | refine RRun.block ?_)
  refine RRun.loopIn (RRun.inLoop ?_)
  repeat' (first | refine S.nilK ?_ | (refine S.op rfl ?_; first | refine S.subNN (m := 0) (n := 0) rfl rfl (by omega) (by omega) ?_ | refine callU rfl rfl (ins_nil _) (fun x => ?_) | refine R.mv rfl ?_ | ((first | refine S.leq rfl rfl ?_ ?_) <;> intro hlt <;> try (exfalso; omega))) | refine S.seq ?_ | refine S.region ?_ | refine S.condT rfl ?_ | refine RRun.block ?_)
  apply S.ret rr103
  case hx => repeat (first | exact ResAt.nil)
  rfl
def srt (l : List SE) : List SE := l.mergeSort (fun x y => !ltE y x)
theorem srt_len (l : List SE) : (srt l).length = l.length := List.length_mergeSort l
theorem srt_perm (l : List SE) : (srt l).Perm l := List.mergeSort_perm l _
theorem sorted_srt {d d' : Array SE} {n : Nat} (hd : d.size = n) (hp : PermIn 0 n d d') (hs : SortedIn ltE 0 n d') : d'.toList = srt d.toList := by
  subst hd
  exact Go.Sort.sorted_unique_holds swo_ltE (fun x y h1 h2 => by
    simp only [ltE, decide_eq_false_iff_not, UInt64.lt_iff_toNat_lt] at h1 h2
    exact UInt64.toNat_inj.1 (by omega)) d d' hp hs
theorem lenTab_all : ∀ n, n < 50 → ∃ tb, lenTab[n]? = some tb ∧ tb.toNat ≤ 8 := by decide
def r97 : RCode :=
  (.seq (.region [
    ⟨(some 3), none, .act, .mv (.tmp 0)⟩,
    ⟨(some 4), none, .act, .len (.tmp 3)⟩,
    ⟨(some 2), none, .act, .mv (.tmp 4)⟩])
  (.region [
    ⟨(some 5), none, .act, .mv (.tmp 0)⟩,
    ⟨(some 6), none, .act, .mv (.tmp 2)⟩,
    ⟨(some 7), none, .act, .mv (.tmp 2)⟩,
    ⟨(some 8), none, .act, .convInt .u64 (.tmp 7)⟩,
    ⟨(some 9), none, .act, .call 104 [(.tmp 8)]⟩,
    ⟨(some 10), none, .act, .call 103 [(.tmp 5), (.const (.int .i64 0)), (.tmp 6), (.tmp 9)]⟩]))
theorem res97 : ∃ c, Try.f97.body = some c ∧ resCode Try.prog 11 c = some r97 := ⟨_, rfl, by kernel_rfl⟩
theorem rr97 : resRes Try.prog Try.f97.results.toList = some [] := by kernel_rfl
theorem sort_spec (l : List SE) (hl : l.length ≤ 49) (d : AV) (B : Nat → Prop) (g : AHeap) (hr : RowG l d B g) :
    ACalls Try.prog 97 [d] g (fun _ h' => RowG (srt l) d B h' ∧ ∀ x, ¬ B x → h' x = g x) := by
  obtain ⟨c, hc1, hc2⟩ := res97
  refine ACalls.enter Try.func97 hc1 Try.ntmps97 hc2 (Nat.le_of_ble_eq_true rfl) rfl ?_
  obtain ⟨tb, ht, htb⟩ := lenTab_all l.length (by omega)
  rcases hr with ⟨rfl, rfl, h1⟩ | ⟨b, cap, sp, rfl, h2, h3, h4, h5, h6⟩
  ·
    repeat' (first | refine S.nilK ?_ | (refine S.op rfl ?_; first | refine S.convU (m := 0) (by omega) rfl ?_ | refine callS rfl rfl (len_spec 0 _ (by omega) tb ht rfl _) ?_ | refine callU rfl rfl (pdq_nil _ _) (fun x => ?_) | refine R.mv rfl ?_ | refine R.lenA rfl ?_) | refine S.seq ?_ | refine S.region ?_)
    apply S.done rr97
    case hx => repeat (first | exact ResAt.nil)
    exact ⟨.inl ⟨List.eq_nil_of_length_eq_zero (by rw [srt_len]; rfl), rfl, h1⟩, fun _ _ => rfl⟩
  · have e : HL g b l sp = g := AHeap.set_eq g h2
    have hs := pdqsort_spec b cap l.length tb.toNat sp g (by omega) (by omega) l.toArray (by simp)
    rw [show l.toArray.toList = l from rfl, e] at hs
    repeat' (first | refine S.nilK ?_ | (refine S.op rfl ?_; first | refine S.convU (by omega) rfl ?_ | refine callS rfl rfl (len_spec l.length _ (by omega) tb ht rfl _) ?_ | refine R.mv rfl ?_ | refine R.lenA rfl ?_) | refine S.seq ?_ | refine S.region ?_)
    refine S.op rfl (R.call rfl rfl (hs.mono ?_))
    rintro x h' ⟨d', ⟨s1, s2, s3⟩, rfl⟩
    repeat' (first | refine S.nilK ?_)
    apply S.done rr97
    case hx => repeat (first | exact ResAt.nil)
    have hq := sorted_srt (by simp) s2 s3
    rw [hq]
    refine ⟨.inr ⟨b, cap, sp, by rw [srt_len], HL_at _ _ _ _, by rw [srt_len]; exact h3, h4, fun q => h5 ?_, h6⟩, fun x hx => AHeap.set_other _ _ fun q => hx ((h6 x).2 q)⟩
    have := srt_len l
    rw [q] at this
    exact List.eq_nil_of_length_eq_zero this.symm
def r86 : RCode :=
  (.seq (.region [
    ⟨(some 2), none, .act, .mv (.const (.slice none 0 0))⟩])
  (.seq (.region [
    ⟨(some 4), none, .act, .mv (.tmp 0)⟩,
    ⟨(some 5), none, .act, .call 96 [(.tmp 4)]⟩,
    ⟨(some 3), none, .act, .mv (.tmp 5)⟩])
  (.seq (.region [
    ⟨(some 6), none, .act, .mv (.tmp 3)⟩,
    ⟨(some 7), none, .act, .call 97 [(.tmp 6)]⟩])
  (.seq (.region [
    ⟨(some 8), none, .act, .mv (.tmp 3)⟩,
    ⟨(some 2), none, .act, .mv (.tmp 8)⟩])
  .ret))))
theorem res86 : ∃ c, Try.f86.body = some c ∧ resCode Try.prog 9 c = some r86 := ⟨_, rfl, by kernel_rfl⟩
theorem rr86 : resRes Try.prog Try.f86.results.toList = some [.tmp 2] := by kernel_rfl
theorem sorted_spec (lst : List UInt64) (hlen : lst.length ≤ 49) (q : Nat) (h : AHeap) (hq : h q = some (.box [u64s lst])) :
    ACalls Try.prog 86 [.v (.func (.func 98) #[] #[.pointer (some ⟨q, 0, none⟩)])] h (fun x h' => ∃ B, RowG (srt lst) x B h' ∧ (∀ y o, h y = some o → h' y = some o) ∧ (∀ y, B y → h y = none)) := by
  obtain ⟨c, hc1, hc2⟩ := res86
  refine ACalls.enter Try.func86 hc1 Try.ntmps86 hc2 (Nat.le_of_ble_eq_true rfl) rfl ?_
  repeat' (first | refine S.nilK ?_ | (refine S.op rfl ?_; first | refine R.mv rfl ?_) | refine S.seq ?_ | refine S.region ?_)
  refine S.op rfl (R.call rfl rfl ((collect_spec lst (by omega) q h hq).mono ?_))
  rintro x h1 ⟨B, g1, g2, g3⟩
  repeat' (first | refine S.nilK ?_ | (refine S.op rfl ?_; first | refine R.mv rfl ?_) | refine S.seq ?_ | refine S.region ?_)
  refine S.op rfl (R.call rfl rfl ((sort_spec lst hlen x B h1 g1).mono ?_))
  rintro y h2 ⟨k1, k2⟩
  repeat' (first | refine S.nilK ?_ | (refine S.op rfl ?_; first | refine R.mv rfl ?_) | refine S.seq ?_ | refine S.region ?_)
  apply S.ret rr86
  case hx => repeat (first | exact ResAt.nil | apply ResAt.tmp rfl)
  exact ⟨B, k1, fun y o e => by rw [k2 y (fun hb => by rw [g3 y hb] at e; cases e)]; exact g2 y o e, g3⟩
def dd : List SE → List SE
  | [] => []
  | [x] => [x]
  | x :: y :: r => if x = y then dd (y :: r) else x :: dd (y :: r)
theorem dd_snoc (x y : SE) : ∀ (a : List SE), dd (a ++ [x, y]) = dd (a ++ [x]) ++ (if x = y then [] else [y])
  | [] => by
    show dd [x, y] = dd [x] ++ _
    simp only [dd]
    split
    · rename_i h; subst h; simp
    · simp
  | [z] => by
    show dd (z :: x :: [y]) = dd (z :: [x]) ++ _
    have ih := dd_snoc x y []
    simp only [List.nil_append] at ih
    simp only [dd] at ih ⊢
    split
    · exact ih
    · rw [ih]; simp
  | z :: w :: a => by
    have ih := dd_snoc x y (w :: a)
    simp only [List.cons_append] at ih ⊢
    have e1 : dd (z :: w :: (a ++ [x, y])) = if z = w then dd (w :: (a ++ [x, y])) else z :: dd (w :: (a ++ [x, y])) := by simp only [dd]
    have e2 : dd (z :: w :: (a ++ [x])) = if z = w then dd (w :: (a ++ [x])) else z :: dd (w :: (a ++ [x])) := by simp only [dd]
    rw [e1, e2]
    split
    · exact ih
    · rw [ih]; simp
theorem dd_take {l : List SE} {j : Nat} {x y : SE} (hx : l[j]? = some x) (hy : l[j + 1]? = some y) : dd (l.take (j + 2)) = dd (l.take (j + 1)) ++ (if x = y then [] else [y]) := by
  have h1 : l.take (j + 1) = l.take j ++ [x] := by rw [List.take_add_one, hx]; rfl
  have h2 : l.take (j + 2) = l.take j ++ [x, y] := by rw [List.take_add_one, hy, h1]; simp
  rw [h2, h1]; exact dd_snoc x y _
theorem dd_len : ∀ (l : List SE), (dd l).length ≤ l.length
  | [] => Nat.le_refl _
  | [x] => Nat.le_refl _
  | x :: y :: r => by
    have := dd_len (y :: r)
    simp only [dd]
    split
    · simp at this ⊢; omega
    · simp at this ⊢; omega
theorem dd_one {l : List SE} (h : l.length < 2) : dd l = l := by
  match l, h with
  | [], _ => rfl
  | [x], _ => rfl
theorem S.ldL {P : Program} {c : Cls} {E : AEnv} {h : AHeap} {K : AV → AHeap → Prop} {b : Nat} {sp : List AV} {x : Operand} {l : List SE} {n : Nat} {v : SE} (hc : c ≠ .pure) (hx : aev E x = some (ptrAt b n)) (hv : l[n]? = some v) (hk : K (enc v) (HL h b l sp)) : ROpS P c (.load false 1 x) E (HL h b l sp) K := by
  have hn : n < l.length := (List.getElem?_eq_some_iff.1 hv).1
  have e : l.toArray[n]! = v := by
    rw [getElem!_pos l.toArray n (by simpa using hn)]
    simpa [List.getElem?_eq_getElem hn] using hv
  have := S.ldE (P := P) (c := c) (E := E) (h := h) (K := K) (b := b) (sp := sp) (x := x) (d := l.toArray) (n := n) hc hx (by simpa using hn)
  rw [e] at this
  exact this hk
theorem S.ixO {P : Program} {c : Cls} {E : AEnv} {h : AHeap} {K : AV → AHeap → Prop} {x i : Operand} {b off len cap n : Nat} (hx : aev E x = some (slAt b off len cap)) (hi : aev E i = some (i64 ((n : Nat) : Int))) (hn : n < len) (hk : K (ptrAt b (off + n)) h) : ROpS P c (.indexAddr 1 x i) E h K :=
  R.indexAddrV hx hi (by omega) (by omega) (by
    have e : off + ((n : Nat) : Int).toNat * 1 = off + n := by omega
    rw [e]; exact hk)
def r85l1 : RCode :=
  (.seq (.seq (.region [
    ⟨(some 29), none, .act, .mv (.tmp 5)⟩,
    ⟨(some 30), none, .act, .mv (.tmp 4)⟩,
    ⟨(some 31), none, .act, .len (.tmp 30)⟩,
    ⟨(some 32), none, .act, .bin .lss (.tmp 29) (.tmp 31)⟩])
  (.cond (.tmp 32)
   .skip
   (.exit 2)))
  (.seq (.block 3
   (.seq (.region [
     ⟨(some 35), none, .pure, .mv (.tmp 4)⟩,
     ⟨(some 36), none, .pure, .mv (.tmp 5)⟩,
     ⟨(some 37), none, .pure, .indexAddr 1 (.tmp 35) (.tmp 36)⟩,
     ⟨(some 38), none, .read, .load false 1 (.tmp 37)⟩,
     ⟨(some 39), none, .pure, .mv (.tmp 4)⟩,
     ⟨(some 40), none, .pure, .mv (.tmp 5)⟩,
     ⟨(some 41), none, .pure, .bin .sub (.tmp 40) (.const (.int .i64 1))⟩,
     ⟨(some 42), none, .pure, .indexAddr 1 (.tmp 39) (.tmp 41)⟩,
     ⟨(some 43), none, .read, .load false 1 (.tmp 42)⟩,
     ⟨(some 44), none, .pure, .eq true .int (.tmp 38) (.tmp 43)⟩])
   (.cond (.tmp 44)
    (.seq (.region [
      ⟨(some 45), none, .act, .mv (.tmp 0)⟩,
      ⟨(some 46), none, .act, .mv (.tmp 3)⟩,
      ⟨(some 47), none, .act, .mv (.tmp 4)⟩,
      ⟨(some 48), none, .act, .mv (.tmp 5)⟩,
      ⟨(some 49), none, .act, .indexAddr 1 (.tmp 47) (.tmp 48)⟩,
      ⟨(some 50), none, .act, .load false 1 (.tmp 49)⟩,
      ⟨(some 51), none, .act, .indexAddr 1 (.tmp 45) (.tmp 46)⟩,
      ⟨none, none, .act, .store 1 (.tmp 51) (.tmp 50)⟩])
    (.region [
      ⟨(some 52), none, .act, .mv (.tmp 3)⟩,
      ⟨(some 53), none, .act, .bin .add (.tmp 52) (.const (.int .i64 1))⟩,
      ⟨(some 3), none, .act, .mv (.tmp 53)⟩]))
    .skip)))
  (.region [
    ⟨(some 33), none, .act, .mv (.tmp 5)⟩,
    ⟨(some 34), none, .act, .bin .add (.tmp 33) (.const (.int .i64 1))⟩,
    ⟨(some 5), none, .act, .mv (.tmp 34)⟩])))
def r85l0 : RCode :=
  (.seq (.seq (.region [
    ⟨(some 10), none, .act, .mv (.tmp 3)⟩,
    ⟨(some 11), none, .act, .mv (.tmp 0)⟩,
    ⟨(some 12), none, .act, .len (.tmp 11)⟩,
    ⟨(some 13), none, .act, .bin .lss (.tmp 10) (.tmp 12)⟩])
  (.cond (.tmp 13)
   .skip
   (.exit 0)))
  (.seq (.block 1
   (.seq (.region [
     ⟨(some 16), none, .pure, .mv (.tmp 0)⟩,
     ⟨(some 17), none, .pure, .mv (.tmp 3)⟩,
     ⟨(some 18), none, .pure, .indexAddr 1 (.tmp 16) (.tmp 17)⟩,
     ⟨(some 19), none, .read, .load false 1 (.tmp 18)⟩,
     ⟨(some 20), none, .pure, .mv (.tmp 0)⟩,
     ⟨(some 21), none, .pure, .mv (.tmp 3)⟩,
     ⟨(some 22), none, .pure, .bin .sub (.tmp 21) (.const (.int .i64 1))⟩,
     ⟨(some 23), none, .pure, .indexAddr 1 (.tmp 20) (.tmp 22)⟩,
     ⟨(some 24), none, .read, .load false 1 (.tmp 23)⟩,
     ⟨(some 25), none, .pure, .eq false .int (.tmp 19) (.tmp 24)⟩])
   (.cond (.tmp 25)
    (.seq (.region [
      ⟨(some 26), none, .act, .mv (.tmp 0)⟩,
      ⟨(some 27), none, .act, .mv (.tmp 3)⟩,
      ⟨(some 28), none, .act, .sliceSl 1 (.tmp 26) (some (.tmp 27)) none none⟩,
      ⟨(some 4), none, .act, .mv (.tmp 28)⟩])
    (.seq (.seq (.region [
      ⟨(some 5), none, .act, .mv (.const (.int .i64 1))⟩])
    (.block 2
     (.loop r85l1)))
    (.seq (.region [
      ⟨(some 54), none, .act, .mv (.tmp 0)⟩,
      ⟨(some 55), none, .act, .mv (.tmp 3)⟩,
      ⟨(some 56), none, .act, .sliceSl 1 (.tmp 54) (some (.tmp 55)) none none⟩,
      ⟨none, none, .act, .clearSl 1 [(.int .u64 0)] (.tmp 56)⟩])
    (.seq (.region [
      ⟨(some 57), none, .act, .mv (.tmp 0)⟩,
      ⟨(some 58), none, .act, .mv (.tmp 3)⟩,
      ⟨(some 59), none, .act, .sliceSl 1 (.tmp 57) none (some (.tmp 58)) none⟩,
      ⟨(some 2), none, .act, .mv (.tmp 59)⟩])
    .ret))))
    .skip)))
  (.region [
    ⟨(some 14), none, .act, .mv (.tmp 3)⟩,
    ⟨(some 15), none, .act, .bin .add (.tmp 14) (.const (.int .i64 1))⟩,
    ⟨(some 3), none, .act, .mv (.tmp 15)⟩])))
def r85 : RCode :=
  (.seq (.region [
    ⟨(some 2), none, .act, .mv (.const (.slice none 0 0))⟩])
  (.seq (.seq (.region [
    ⟨(some 6), none, .act, .mv (.tmp 0)⟩,
    ⟨(some 7), none, .act, .len (.tmp 6)⟩,
    ⟨(some 8), none, .act, .bin .lss (.tmp 7) (.const (.int .i64 2))⟩])
  (.cond (.tmp 8)
   (.seq (.region [
     ⟨(some 9), none, .act, .mv (.tmp 0)⟩,
     ⟨(some 2), none, .act, .mv (.tmp 9)⟩])
   .ret)
   .skip))
  (.seq (.seq (.region [
    ⟨(some 3), none, .act, .mv (.const (.int .i64 1))⟩])
  (.block 0
   (.loop r85l0)))
  (.seq (.region [
    ⟨(some 60), none, .act, .mv (.tmp 0)⟩,
    ⟨(some 2), none, .act, .mv (.tmp 60)⟩])
  .ret))))
theorem res85 : ∃ c, Try.f85.body = some c ∧ resCode Try.prog 61 c = some r85 := ⟨_, rfl, by kernel_rfl⟩
theorem rr85 : resRes Try.prog Try.f85.results.toList = some [.tmp 2] := by kernel_rfl
theorem compact_inner (b cap n i0 : Nat) (l : List SE) (hln : l.length = n) (hn : n ≤ 1000000) (hi0 : 1 ≤ i0) (hi1 : i0 < n) (sp : List AV) (h : AHeap) (k : List RT) (Q : AV → AHeap → Prop)
    (hk : ∀ c : List SE, c.length = n → (dd l).length ≤ n → c.take (dd l).length = dd l → RRun Try.prog Try.f85 61 k (Env.get [(0, slAt b 0 n cap), (3, i64 ((dd l).length : Nat))]) (HL h b c sp) Q) : ∀ (m k2 i : Nat) (c : List SE), i0 + k2 + m = n → 1 ≤ k2 → c.length = n → i + 1 ≤ i0 + k2 → i = (dd (l.take (i0 + k2))).length → c.take i = dd (l.take (i0 + k2)) → (∀ j, i0 + k2 ≤ j + 1 → c[j]? = l[j]?) →
    RRun Try.prog Try.f85 61 (.inLoop r85l1 :: .inBlock 2 :: k) (Env.get [(0, slAt b 0 n cap), (3, i64 i), (4, slAt b i0 (n - i0) (cap - i0)), (5, i64 k2)]) (HL h b c sp) Q := by
  intro m
  induction m with
  | zero =>
    intro k2 i c hm h1 hc hik hi ht hj
    have e : l.take (i0 + k2) = l := List.take_of_length_le (by omega)
    rw [e] at hi ht
    refine RRun.inLoop ?_
    repeat' (first | refine S.nilK ?_ | (refine S.op rfl ?_; first | refine R.mv rfl ?_ | refine R.lenA rfl ?_ | ((first | refine S.lss rfl rfl ?_ ?_) <;> intro hlt <;> try (exfalso; omega))) | refine S.seq ?_ | refine S.region ?_ | refine S.condF rfl ?_ | refine RRun.exit rfl ?_)
    subst hi
    exact S.keep [0, 3] rfl (hk c hc (by omega) ht)
  | succ m ih =>
    intro k2 i c hm h1 hc hik hi ht hj
    obtain ⟨x, hx⟩ : ∃ x, l[i0 + k2 - 1]? = some x := ⟨_, List.getElem?_eq_getElem (by omega)⟩
    obtain ⟨y, hy⟩ : ∃ y, l[i0 + k2]? = some y := ⟨_, List.getElem?_eq_getElem (by omega)⟩
    have hcx : c[i0 + (k2 - 1)]? = some x := by rw [hj _ (by omega), show i0 + (k2 - 1) = i0 + k2 - 1 by omega]; exact hx
    have hcy : c[i0 + k2]? = some y := by rw [hj _ (by omega)]; exact hy
    have hd := dd_take (l := l) (j := i0 + k2 - 1) hx (by rw [show i0 + k2 - 1 + 1 = i0 + k2 by omega]; exact hy)
    rw [show i0 + k2 - 1 + 2 = i0 + (k2 + 1) by omega, show i0 + k2 - 1 + 1 = i0 + k2 by omega] at hd
    by_cases hxy : x = y
    · subst hxy
      rw [if_pos rfl, List.append_nil] at hd
      refine RRun.inLoop ?_
      repeat' (first | refine S.nilK ?_ | (refine S.op rfl ?_; first | refine S.addNN (n := 1) rfl rfl (by omega) ?_ | refine S.subNN (n := 1) rfl rfl (by omega) (by omega) ?_ | refine S.ixO rfl rfl (by omega) ?_ | refine S.ldL (by decide) rfl hcy ?_ | refine S.ldL (by decide) rfl hcx ?_ | refine S.eqIntSame rfl rfl ?_ | refine R.mv rfl ?_ | refine R.lenA rfl ?_ | ((first | refine S.lss rfl rfl ?_ ?_) <;> intro hlt <;> try (exfalso; omega))) | refine S.seq ?_ | refine S.region ?_ | refine S.condT rfl ?_ | refine S.condF rfl ?_ | refine RRun.skip ?_ | refine RRun.block ?_ | refine RRun.inBlock ?_)
      exact S.keep [0, 3, 4, 5] rfl (ih (k2 + 1) i c (by omega) (by omega) hc (by omega) (by rw [hd]; exact hi) (by rw [hd]; exact ht) (fun j hj' => hj j (by omega)))
    · rw [if_neg hxy] at hd
      have hne : y.toNat ≠ x.toNat := fun e => hxy (UInt64.toNat_inj.1 e).symm
      refine RRun.inLoop ?_
      repeat' (first | (refine S.op0 rfl (S.stE rfl rfl rfl (by omega) ?_)) | refine S.nilK ?_ | (refine S.op rfl ?_; first | refine S.addNN (n := 1) rfl rfl (by omega) ?_ | refine S.subNN (n := 1) rfl rfl (by omega) (by omega) ?_ | refine S.ix rfl rfl (by omega) ?_ | refine S.ixO rfl rfl (by omega) ?_ | refine S.ldL (by decide) rfl hcy ?_ | refine S.ldL (by decide) rfl hcx ?_ | refine R.mv rfl ?_ | refine R.lenA rfl ?_ | ((first | refine S.lss rfl rfl ?_ ?_ | refine S.eqInt rfl rfl ?_ ?_) <;> intro hlt <;> try (exfalso; omega))) | refine S.seq ?_ | refine S.region ?_ | refine S.condT rfl ?_ | refine RRun.skip ?_ | refine RRun.block ?_ | refine RRun.inBlock ?_)
      refine S.keep [0, 3, 4, 5] rfl (ih (k2 + 1) (i + 1) _ (by omega) (by omega) (by simpa using hc) (by omega) (by rw [hd, List.length_append, ← hi]; rfl) ?_ (fun j hj' => ?_))
      · rw [hd, ← ht, List.take_add_one, List.take_set, List.getElem?_set_self (by omega)]
        rw [List.set_eq_of_length_le (by simp only [List.length_take]; omega)]; rfl
      · rw [List.getElem?_set_ne (by omega)]; exact hj j (by omega)
theorem S.tailU {P : Program} {c : Cls} {E : AEnv} {h : AHeap} {K : AV → AHeap → Prop} {x lo : Operand} {b len cap n : Nat} (hx : aev E x = some (slAt b 0 len cap)) (hlo : aev E lo = some (i64 ((n : Nat) : Int))) (h1 : n < len) (h2 : len ≤ cap) (hk : K (slAt b n (len - n) (cap - n)) h) : ROpS P c (.sliceSl 1 x (some lo) none none) E h K := by
  refine S.sliceVL hx hlo (by omega) (by omega) h2 ?_
  have e : ((n : Nat) : Int).toNat = n := by omega
  rw [e, if_neg (by omega), Nat.zero_add, Nat.mul_one]; exact hk
theorem S.headU {P : Program} {c : Cls} {E : AEnv} {h : AHeap} {K : AV → AHeap → Prop} {x hi : Operand} {b len cap n : Nat} (hx : aev E x = some (slAt b 0 len cap)) (hhi : aev E hi = some (i64 ((n : Nat) : Int))) (h1 : n ≤ cap) (hk : K (slAt b 0 n cap) h) : ROpS P c (.sliceSl 1 x none (some hi) none) E h K := by
  refine S.sliceVH hx hhi (by omega) (by omega) ?_
  have e : ((n : Nat) : Int).toNat = n := by omega
  rw [e]; exact hk
theorem dd_ne {l : List SE} (h : l ≠ []) : dd l ≠ [] := by
  match l, h with
  | [x], _ => simp [dd]
  | x :: y :: r, _ =>
    simp only [dd]
    split
    · exact dd_ne (by simp)
    · simp
theorem dd_short {l : List SE} : ∀ (m j : Nat), j + m ≤ l.length → 1 ≤ j → (dd (l.take j)).length < j → (dd (l.take (j + m))).length < j + m
  | 0, j, _, _, h => h
  | m + 1, j, hj, h1, h => by
    obtain ⟨x, hx⟩ : ∃ x, l[j - 1]? = some x := ⟨_, List.getElem?_eq_getElem (by omega)⟩
    obtain ⟨y, hy⟩ : ∃ y, l[j]? = some y := ⟨_, List.getElem?_eq_getElem (by omega)⟩
    have hdt := dd_take (l := l) (j := j - 1) hx (by rw [show j - 1 + 1 = j by omega]; exact hy)
    rw [show j - 1 + 2 = j + 1 by omega, show j - 1 + 1 = j by omega] at hdt
    have := dd_short (l := l) m (j + 1) (by omega) (by omega) (by
      rw [hdt, List.length_append]
      split <;> simp <;> omega)
    rw [show j + (m + 1) = j + 1 + m by omega]; exact this
theorem over_clear {c dl : List SE} {sp : List AV} {n : Nat} (hc : c.length = n) (hl : dl.length ≤ n) (ht : c.take dl.length = dl) : over (c.map enc ++ sp) dl.length (List.replicate ((n - dl.length) * 1) .any) = dl.map enc ++ (List.replicate ((n - dl.length) * 1) .any ++ sp) := by
  unfold over
  have h1 : (c.map enc ++ sp).take dl.length = dl.map enc := by
    rw [List.take_append_of_le_length (by simp; omega), ← List.map_take, ht]
  have h2 : (c.map enc ++ sp).drop (dl.length + (List.replicate ((n - dl.length) * 1) AV.any).length) = sp := by
    rw [List.length_replicate, show dl.length + (n - dl.length) * 1 = (c.map enc).length by simp; omega, List.drop_left]
  rw [h1, h2, List.append_assoc]
theorem compact_outer (b cap n : Nat) (l : List SE) (hln : l.length = n) (hn : n ≤ 1000000) (hcap : n ≤ cap) (sp : List AV) (h : AHeap) (k : List RT) (Q : AV → AHeap → Prop)
    (hQ : ∀ (c' : List SE) (sp' : List AV), c' = dd l → c'.length + sp'.length = n + sp.length → Q (slAt b 0 c'.length cap) (HL h b c' sp'))
    (hk : dd l = l → RRun Try.prog Try.f85 61 k (Env.get [(0, slAt b 0 n cap)]) (HL h b l sp) Q) : ∀ (m i : Nat), i + m = n → 1 ≤ i → dd (l.take i) = l.take i →
    RRun Try.prog Try.f85 61 (.inLoop r85l0 :: .inBlock 0 :: k) (Env.get [(0, slAt b 0 n cap), (3, i64 i)]) (HL h b l sp) Q := by
  intro m
  induction m with
  | zero =>
    intro i hm h1 hd
    refine RRun.inLoop ?_
    repeat' (first | refine S.nilK ?_ | (refine S.op rfl ?_; first | refine R.mv rfl ?_ | refine R.lenA rfl ?_ | ((first | refine S.lss rfl rfl ?_ ?_) <;> intro hlt <;> try (exfalso; omega))) | refine S.seq ?_ | refine S.region ?_ | refine S.condF rfl ?_ | refine RRun.exit rfl ?_)
    rw [List.take_of_length_le (by omega)] at hd
    exact S.keep [0] rfl (hk hd)
  | succ m ih =>
    intro i hm h1 hd
    obtain ⟨x, hx⟩ : ∃ x, l[i - 1]? = some x := ⟨_, List.getElem?_eq_getElem (by omega)⟩
    obtain ⟨y, hy⟩ : ∃ y, l[i]? = some y := ⟨_, List.getElem?_eq_getElem (by omega)⟩
    have hdt := dd_take (l := l) (j := i - 1) hx (by rw [show i - 1 + 1 = i by omega]; exact hy)
    rw [show i - 1 + 2 = i + 1 by omega, show i - 1 + 1 = i by omega] at hdt
    have htl : (l.take i).length = i := by simp; omega
    by_cases hxy : x = y
    · subst hxy
      rw [if_pos rfl, List.append_nil, hd] at hdt
      refine RRun.inLoop ?_
      repeat' (first | refine S.nilK ?_ | (refine S.op rfl ?_; first | refine S.subNN (n := 1) rfl rfl (by omega) (by omega) ?_ | refine S.ix rfl rfl (by omega) ?_ | refine S.ldL (by decide) rfl hy ?_ | refine S.ldL (by decide) rfl hx ?_ | refine S.eqIntSame rfl rfl ?_ | refine S.tailU rfl rfl (by omega) hcap ?_ | refine R.mv rfl ?_ | refine R.lenA rfl ?_ | ((first | refine S.lss rfl rfl ?_ ?_) <;> intro hlt <;> try (exfalso; omega))) | refine S.seq ?_ | refine S.region ?_ | refine S.condT rfl ?_ | refine RRun.skip ?_ | refine RRun.block ?_)
      refine RRun.loopIn (S.keep [0, 3, 4, 5] (l' := [(0, slAt b 0 n cap), (3, i64 i), (4, slAt b i (n - i) (cap - i)), (5, i64 (1 : Nat))]) rfl ?_)
      refine compact_inner b cap n i l hln hn h1 (by omega) sp h _ _ (fun c hc hdn hct => ?_) (n - (i + 1)) 1 i l (by omega) (by omega) hln (by omega) (by rw [hdt]; exact htl.symm) (by rw [hdt]) (fun j _ => rfl)
      have hlt : (dd l).length < n := by
        have e1 := dd_short (l := l) (n - (i + 1)) (i + 1) (by omega) (by omega) (by rw [hdt, htl]; omega)
        rw [show i + 1 + (n - (i + 1)) = n by omega, List.take_of_length_le (by omega)] at e1
        exact e1
      repeat' (first | (refine S.op rfl ?_; first | refine S.tailU rfl rfl hlt hcap ?_ | refine R.mv rfl ?_) | refine S.seq ?_ | refine S.region ?_)
      refine S.op0 rfl (R.clearOwn rfl rfl (by omega) (HL_at _ _ _ _) (by simp; omega) (by decide) ?_)
      repeat' (first | refine S.nilK ?_ | (refine S.op rfl ?_; first | refine S.headU rfl rfl (by omega) ?_ | refine R.mv rfl ?_) | refine S.seq ?_ | refine S.region ?_)
      apply S.ret rr85
      case hx => repeat (first | exact ResAt.nil | apply ResAt.tmp rfl)
      rw [over_clear hc hdn hct]
      have e2 : (HL h b c sp).set b (.box ((dd l).map enc ++ (List.replicate ((n - (dd l).length) * 1) .any ++ sp))) = HL h b (dd l) (List.replicate ((n - (dd l).length) * 1) .any ++ sp) := AHeap.set_set _ _ _ _
      rw [e2]
      exact hQ (dd l) (List.replicate ((n - (dd l).length) * 1) .any ++ sp) rfl (by simp; omega)
    · rw [if_neg hxy, hd] at hdt
      have hne : y.toNat ≠ x.toNat := fun e => hxy (UInt64.toNat_inj.1 e).symm
      refine RRun.inLoop ?_
      repeat' (first | refine S.nilK ?_ | (refine S.op rfl ?_; first | refine S.addNN (n := 1) rfl rfl (by omega) ?_ | refine S.subNN (n := 1) rfl rfl (by omega) (by omega) ?_ | refine S.ix rfl rfl (by omega) ?_ | refine S.ldL (by decide) rfl hy ?_ | refine S.ldL (by decide) rfl hx ?_ | refine R.mv rfl ?_ | refine R.lenA rfl ?_ | ((first | refine S.lss rfl rfl ?_ ?_ | refine S.eqInt rfl rfl ?_ ?_) <;> intro hlt <;> try (exfalso; omega))) | refine S.seq ?_ | refine S.region ?_ | refine S.condT rfl ?_ | refine S.condF rfl ?_ | refine RRun.skip ?_ | refine RRun.block ?_ | refine RRun.inBlock ?_)
      exact S.keep [0, 3] rfl (ih (i + 1) (by omega) (by omega) (by rw [hdt, List.take_add_one, hy]; rfl))
theorem compactS_spec (l : List SE) (hl : l.length ≤ 1000000) (d : AV) (B : Nat → Prop) (g : AHeap) (hr : RowG l d B g) :
    ACalls Try.prog 85 [d] g (fun x h' => RowG (dd l) x B h' ∧ ∀ y, ¬ B y → h' y = g y) := by
  obtain ⟨c, hc1, hc2⟩ := res85
  refine ACalls.enter Try.func85 hc1 Try.ntmps85 hc2 (Nat.le_of_ble_eq_true rfl) rfl ?_
  rcases hr with ⟨rfl, rfl, h1⟩ | ⟨b, cap, sp, rfl, h2, h3, h4, h5, h6⟩
  ·
    repeat' (first | refine S.nilK ?_ | (refine S.op rfl ?_; first | refine R.mv rfl ?_ | refine R.lenA rfl ?_ | ((first | refine S.lss rfl rfl ?_ ?_) <;> intro hlt <;> try (exfalso; omega))) | refine S.seq ?_ | refine S.region ?_ | refine S.condT rfl ?_)
    apply S.ret rr85
    case hx => repeat (first | exact ResAt.nil | apply ResAt.tmp rfl)
    exact ⟨.inl ⟨rfl, rfl, h1⟩, fun _ _ => rfl⟩
  · have e : HL g b l sp = g := AHeap.set_eq g h2
    have hpos : 0 < l.length := List.length_pos_iff.2 h5
    by_cases h2l : l.length < 2
    ·
      repeat' (first | refine S.nilK ?_ | (refine S.op rfl ?_; first | refine R.mv rfl ?_ | refine R.lenA rfl ?_ | ((first | refine S.lss rfl rfl ?_ ?_) <;> intro hlt <;> try (exfalso; omega))) | refine S.seq ?_ | refine S.region ?_ | refine S.condT rfl ?_)
      apply S.ret rr85
      case hx => repeat (first | exact ResAt.nil | apply ResAt.tmp rfl)
      rw [dd_one h2l]
      exact ⟨.inr ⟨b, cap, sp, rfl, h2, h3, h4, h5, h6⟩, fun _ _ => rfl⟩
    · rw [← e]
      repeat' (first | refine S.nilK ?_ | (refine S.op rfl ?_; first | refine R.mv rfl ?_ | refine R.lenA rfl ?_ | ((first | refine S.lss rfl rfl ?_ ?_) <;> intro hlt <;> try (exfalso; omega))) | refine S.seq ?_ | refine S.region ?_ | refine S.condF rfl ?_ | refine RRun.skip ?_ | refine RRun.block ?_)
      refine RRun.loopIn (S.keep [0, 3] (l' := [(0, slAt b 0 l.length cap), (3, i64 (1 : Nat))]) rfl ?_)
      refine compact_outer b cap l.length l rfl hl (by omega) sp g _ _ (fun c' sp' q1 q2 => ?_) (fun hd => ?_) (l.length - 1) 1 (by omega) (Nat.le_refl _) ?_
      · subst q1
        exact ⟨.inr ⟨b, cap, sp', rfl, HL_at _ _ _ _, by omega, h4, dd_ne h5, h6⟩, fun y hy => by rw [e]; exact AHeap.set_other _ _ fun q => hy ((h6 y).2 q)⟩
      ·
        repeat' (first | refine S.nilK ?_ | (refine S.op rfl ?_; first | refine R.mv rfl ?_) | refine S.seq ?_ | refine S.region ?_)
        apply S.ret rr85
        case hx => repeat (first | exact ResAt.nil | apply ResAt.tmp rfl)
        rw [hd]
        exact ⟨.inr ⟨b, cap, sp, rfl, HL_at _ _ _ _, h3, h4, h5, h6⟩, fun y hy => by rw [e]⟩
      · exact dd_one (by simp; omega)
end Go.Proofs.Ytnmgamcmjjngcaa

namespace Go.Proofs.Ytnmgamcmjjngcaa
open Go.Av
def hiB (m : Nat) : List UInt8 := if m = 0 then [] else hiB (m / 128) ++ [UInt8.ofNat (m % 128 + 128)]
termination_by m
def putN (n : Nat) : List UInt8 := hiB (n / 128) ++ [UInt8.ofNat (n % 128)]
def putNs (l : List UInt64) : List UInt8 := l.flatMap fun x => putN x.toNat
theorem hiB_zero : hiB 0 = [] := by rw [hiB, if_pos rfl]
theorem hiB_pos {m : Nat} (h : m ≠ 0) : hiB m = hiB (m / 128) ++ [UInt8.ofNat (m % 128 + 128)] := by rw [hiB, if_neg h]
def hk (n : Nat) : Nat → List UInt8
  | 0 => []
  | k + 1 => UInt8.ofNat (n / 128 ^ (k + 1) % 128 + 128) :: hk n k
theorem hk_snoc (n : Nat) : ∀ k, hk n (k + 1) = hk (n / 128) k ++ [UInt8.ofNat (n / 128 % 128 + 128)]
  | 0 => by simp [hk]
  | k + 1 => by
    have ih := hk_snoc n k
    show UInt8.ofNat (n / 128 ^ (k + 1 + 1) % 128 + 128) :: hk n (k + 1) = (UInt8.ofNat (n / 128 / 128 ^ (k + 1) % 128 + 128) :: hk (n / 128) k) ++ _
    rw [ih, Nat.div_div_eq_div_mul, show 128 ^ (k + 1 + 1) = 128 * 128 ^ (k + 1) by rw [Nat.pow_succ 128 (k + 1), Nat.mul_comm]]
    rfl
theorem hiB_hk : ∀ (k n : Nat), n / 128 ^ k < 128 → (∀ j, j < k → 128 ≤ n / 128 ^ j) → hiB (n / 128) = hk n k
  | 0, n, h1, _ => by
    rw [Nat.pow_zero, Nat.div_one] at h1
    rw [show n / 128 = 0 by omega, hiB_zero]; rfl
  | k + 1, n, h1, h2 => by
    have h0 := h2 0 (by omega)
    rw [Nat.pow_zero, Nat.div_one] at h0
    have e : ∀ j, n / 128 / 128 ^ j = n / 128 ^ (j + 1) := fun j => by
      rw [Nat.div_div_eq_div_mul, Nat.pow_succ 128 j, Nat.mul_comm]
    rw [hk_snoc, hiB_pos (by omega), hiB_hk k (n / 128) (by rw [e]; exact h1) (fun j hj => by rw [e]; exact h2 (j + 1) (by omega))]
theorem hk_len (n : Nat) : ∀ k, (hk n k).length = k
  | 0 => rfl
  | k + 1 => by simp [hk, hk_len n k]
theorem hiB_len : ∀ (k m : Nat), m < 128 ^ k → (hiB m).length ≤ k
  | 0, m, h => by
    rw [show m = 0 by simpa using h, hiB_zero]; simp
  | k + 1, m, h => by
    by_cases h0 : m = 0
    · rw [h0, hiB_zero]; simp
    · rw [hiB_pos h0, List.length_append]
      have := hiB_len k (m / 128) (by rw [Nat.div_lt_iff_lt_mul (by decide)]; rw [Nat.pow_succ] at h; omega)
      simp; omega
theorem putN_len {n : Nat} (h : n < 18446744073709551616) : (putN n).length ≤ 10 := by
  have := hiB_len 9 (n / 128) (by omega)
  unfold putN
  rw [List.length_append]
  simp; omega
abbrev bysC (l : List UInt8) (c : Cap) : AV := .sl 1 (Go.Av.byteCells l) c
def WAt (h₀ : AHeap) (p : Nat) (acc : List UInt8) (h : AHeap) : Prop :=
  ∃ c, h p = some (.box [bysC acc c]) ∧ OwnT h c ∧ h₀ p = none ∧ (∀ x, TokC c x → h₀ x = none) ∧ ¬ TokC c p ∧ ∀ x o, h₀ x = some o → h x = some o
theorem one_bytes (ys : List UInt8) : ∀ e ∈ Go.Av.byteCells ys, ∀ a ∈ e, a.one = true := by
  intro e he a ha
  simp only [Go.Av.byteCells, List.mem_map] at he
  obtain ⟨u, _, rfl⟩ := he
  simp only [byteCell, List.mem_singleton] at ha
  subst ha; rfl
theorem S.wapp {P : Program} {c : Cls} {E : AEnv} {h₀ h : AHeap} {K : AV → AHeap → Prop} {zero : List Value} {x y : Operand} {s : AV} {acc ys : List UInt8} {c0 : Cap} {p : Nat} (hc : c = .act) (hp : h p = some (.box [bysC acc c0])) (ho : OwnT h c0) (h0p : h₀ p = none) (h0t : ∀ x, TokC c0 x → h₀ x = none) (hpt : ¬ TokC c0 p) (hb : ∀ x o, h₀ x = some o → h x = some o)
    (hx : aev E x = some (bysC acc c0)) (hy : aev E y = some s) (hs : Go.Av.Src 1 s (Go.Av.byteCells ys)) (hlen : acc.length + ys.length ≤ 4000000000000)
    (hk : ∀ c' h', h' p = some (.box [bysC acc c0]) → (WAt h₀ p (acc ++ ys) (h'.set p (.box [bysC (acc ++ ys) c']))) → K (bysC (acc ++ ys) c') h') : ROpS P c (.append 1 1 zero x y) E h K := by
  refine S.appendT hc ho hx (.sl _ _) hy hs (one_bytes ys) ?_ ?_ (fun c' h' g1 g2 g3 => ?_)
  · simp only [Go.Av.byteCells, List.length_map]; omega
  · simp only [Go.Av.byteCells, List.length_map]; omega
  · have hp' := g2 p _ hp hpt
    have hpt' : ¬ TokC c' p := fun ⟨u, s', e⟩ => by
      rcases g1 with e3 | ⟨b', u', s2, e3, e4⟩
      · rw [e3] at e; cases e
      · rw [e3] at e; cases e; rw [hp'] at e4; cases e4
    have hnone : ∀ x, h x = none → h₀ x = none := fun x e => by
      cases e0 : h₀ x with
      | none => rfl
      | some o => rw [hb x o e0] at e; cases e
    have := hk c' h' hp' ⟨c', AHeap.set_same _ _ _, ownT_loc g1 fun x hx => AHeap.set_other _ _ (by rintro rfl; exact hpt' hx), h0p, fun x hx => (g3 x hx).elim (h0t x) (hnone x), hpt', fun x o e => by
      have hxp : x ≠ p := by rintro rfl; rw [h0p] at e; cases e
      rw [AHeap.set_other _ _ hxp]
      exact g2 x o (hb x o e) (fun ht => by rw [h0t x ht] at e; cases e)⟩
    simpa [bysC, Go.Av.byteCells] using this
section
variable {P : Program} {c : Cls} {E : AEnv} {h : AHeap} {K : AV → AHeap → Prop}
theorem S.shr7 {x y : Operand} {n j : Nat} (hj : j ≤ 9) (hx : aev E x = some (.v (.int .u64 (n : Int)))) (hy : aev E y = some (i64 ((7 * j : Nat) : Int))) (hk : K (.v (.int .u64 ((n / 128 ^ j : Nat) : Int))) h) : ROpS P c (.bin .shr x y) E h K := by
  refine R.shr hx hy (by omega) ?_
  have e : min (((7 * j : Nat) : Int)).toNat IntKind.u64.bits = 7 * j := by simp only [Int.toNat_natCast, IntKind.bits]; omega
  rw [e]
  have : ((n : Int).fdiv (2 ^ (7 * j))) = ((n / 128 ^ j : Nat) : Int) := by
    have hp : (2 : Int) ^ (7 * j) = ((128 ^ j : Nat) : Int) := by
      obtain rfl | rfl | rfl | rfl | rfl | rfl | rfl | rfl | rfl | rfl : j = 0 ∨ j = 1 ∨ j = 2 ∨ j = 3 ∨ j = 4 ∨ j = 5 ∨ j = 6 ∨ j = 7 ∨ j = 8 ∨ j = 9 := by omega
      all_goals decide
    rw [hp, Int.fdiv_eq_ediv_of_nonneg _ (Int.natCast_nonneg _)]
    rfl
  rw [this]; exact hk
theorem S.conv8N {x : Operand} {n : Nat} {k : IntKind} (hx : aev E x = some (.v (.int k (n : Int)))) (hk : K (.v (.int .u8 ((n % 256 : Nat) : Int))) h) : ROpS P c (.convInt .u8 x) E h K := by
  refine R.convInt hx ?_
  have : IntKind.u8.wrap (n : Int) = ((n % 256 : Nat) : Int) := by
    simp only [IntKind.wrap, IntKind.bits, IntKind.signed]
    simp
  rw [this]; exact hk
theorem or128 : ∀ m : Fin 256, (BitVec.ofInt 8 (m.val : Int) ||| (BitVec.ofInt 8 128)).toNat = m.val % 128 + 128 := by decide +kernel
theorem S.or128 {x : Operand} {m : Nat} (hm : m < 256) (hx : aev E x = some (.v (.int .u8 (m : Int)))) (hk : K (.v (.int .u8 ((UInt8.ofNat (m % 128 + 128)).toNat : Int))) h) : ROpS P c (.bin .or x (.const (.int .u8 128))) E h K := by
  refine R.bin hx rfl rfl ?_
  have e := Go.Proofs.Ytnmgamcmjjngcaa.or128 ⟨m, hm⟩
  have e2 : (UInt8.ofNat (m % 128 + 128)).toNat = m % 128 + 128 := by simp; omega
  rw [e2] at hk
  show K (.v (.int .u8 (IntKind.u8.wrap ((BitVec.ofInt 8 (m : Int) ||| (BitVec.ofInt 8 128)).toNat : Int)))) h
  rw [e, wrap_u8N (by omega)]; exact hk
theorem S.low7 {x : Operand} {m : Nat} (hm : m < 256) (hx : aev E x = some (.v (.int .u8 (m : Int)))) (hk : K (.v (.int .u8 ((UInt8.ofNat (m % 128)).toNat : Int))) h) : ROpS P c (.bin .andNot x (.const (.int .u8 128))) E h K := by
  refine S.andNot7 hm hx ?_
  have e2 : (UInt8.ofNat (m % 128)).toNat = m % 128 := by simp; omega
  rw [e2] at hk; exact hk
end
def r78l1 : RCode :=
  (.seq (.seq (.region [
    ⟨(some 15), none, .act, .mv (.tmp 5)⟩,
    ⟨(some 16), none, .act, .mv (.tmp 6)⟩,
    ⟨(some 17), none, .act, .bin .shr (.tmp 15) (.tmp 16)⟩,
    ⟨(some 18), none, .act, .bin .geq (.tmp 17) (.const (.int .u64 128))⟩])
  (.cond (.tmp 18)
   .skip
   (.exit 2)))
  (.block 3
   (.region [
     ⟨(some 19), none, .act, .mv (.tmp 6)⟩,
     ⟨(some 20), none, .act, .bin .add (.tmp 19) (.const (.int .i64 7))⟩,
     ⟨(some 6), none, .act, .mv (.tmp 20)⟩])))
def r78l2 : RCode :=
  (.seq (.seq (.region [
    ⟨(some 21), none, .act, .mv (.tmp 6)⟩,
    ⟨(some 22), none, .act, .bin .gtr (.tmp 21) (.const (.int .i64 0))⟩])
  (.cond (.tmp 22)
   .skip
   (.exit 4)))
  (.seq (.block 5
   (.region [
     ⟨(some 25), none, .pure, .mv (.tmp 0)⟩,
     ⟨(some 26), none, .pure, .mv (.tmp 0)⟩,
     ⟨(some 27), none, .pure, .nilCheck (.tmp 26)⟩,
     ⟨(some 28), none, .pure, .fieldAddr 0 (.tmp 27)⟩,
     ⟨(some 29), none, .read, .load false 1 (.tmp 28)⟩,
     ⟨(some 30), none, .pure, .mv (.tmp 5)⟩,
     ⟨(some 31), none, .pure, .mv (.tmp 6)⟩,
     ⟨(some 32), none, .pure, .bin .shr (.tmp 30) (.tmp 31)⟩,
     ⟨(some 33), none, .pure, .convInt .u8 (.tmp 32)⟩,
     ⟨(some 34), none, .pure, .bin .or (.tmp 33) (.const (.int .u8 128))⟩,
     ⟨(some 35), none, .pure, .buildSl 1 [(.int .u8 0)] 1 [(0, (.tmp 34))]⟩,
     ⟨(some 36), none, .act, .append 1 1 [(.int .u8 0)] (.tmp 29) (.tmp 35)⟩,
     ⟨(some 37), none, .pure, .nilCheck (.tmp 25)⟩,
     ⟨(some 38), none, .pure, .fieldAddr 0 (.tmp 37)⟩,
     ⟨none, none, .act, .store 1 (.tmp 38) (.tmp 36)⟩]))
  (.region [
    ⟨(some 23), none, .act, .mv (.tmp 6)⟩,
    ⟨(some 24), none, .act, .bin .sub (.tmp 23) (.const (.int .i64 7))⟩,
    ⟨(some 6), none, .act, .mv (.tmp 24)⟩])))
def r78l0 : RCode :=
  (.seq (.region [
    ⟨(some 12), none, .act, .bin .lss (.tmp 11) (.tmp 10)⟩])
  (.seq (.cond (.tmp 12)
   .skip
   (.exit 0))
  (.seq (.block 1
   (.seq (.region [
     ⟨(some 13), none, .act, .indexAddr 1 (.tmp 9) (.tmp 11)⟩,
     ⟨(some 14), none, .act, .load false 1 (.tmp 13)⟩,
     ⟨(some 5), none, .act, .mv (.tmp 14)⟩])
   (.seq (.region [
     ⟨(some 6), none, .act, .mv (.const (.int .i64 0))⟩])
   (.seq (.block 2
    (.loop r78l1))
   (.seq (.block 4
    (.loop r78l2))
   (.region [
     ⟨(some 39), none, .act, .mv (.tmp 0)⟩,
     ⟨(some 40), none, .act, .mv (.tmp 0)⟩,
     ⟨(some 41), none, .act, .nilCheck (.tmp 40)⟩,
     ⟨(some 42), none, .act, .fieldAddr 0 (.tmp 41)⟩,
     ⟨(some 43), none, .act, .load false 1 (.tmp 42)⟩,
     ⟨(some 44), none, .act, .mv (.tmp 5)⟩,
     ⟨(some 45), none, .act, .convInt .u8 (.tmp 44)⟩,
     ⟨(some 46), none, .act, .bin .andNot (.tmp 45) (.const (.int .u8 128))⟩,
     ⟨(some 47), none, .act, .buildSl 1 [(.int .u8 0)] 1 [(0, (.tmp 46))]⟩,
     ⟨(some 48), none, .act, .append 1 1 [(.int .u8 0)] (.tmp 43) (.tmp 47)⟩,
     ⟨(some 49), none, .act, .nilCheck (.tmp 39)⟩,
     ⟨(some 50), none, .act, .fieldAddr 0 (.tmp 49)⟩,
     ⟨none, none, .act, .store 1 (.tmp 50) (.tmp 48)⟩]))))))
  (.region [
    ⟨(some 51), none, .act, .bin .add (.tmp 11) (.const (.int .i64 1))⟩,
    ⟨(some 11), none, .act, .mv (.tmp 51)⟩]))))
def r78 : RCode :=
  (.seq (.seq (.region [
    ⟨(some 7), none, .act, .mv (.tmp 0)⟩,
    ⟨(some 8), none, .act, .eq false .ptr (.tmp 7) (.const (.pointer none))⟩])
  (.cond (.tmp 8)
   .ret
   .skip))
  (.seq (.region [
    ⟨(some 9), none, .act, .mv (.tmp 1)⟩,
    ⟨(some 10), none, .act, .len (.tmp 9)⟩,
    ⟨(some 11), none, .act, .mv (.const (.int .i64 0))⟩])
  (.block 0
   (.loop r78l0))))
theorem res78 : ∃ c, Try.f78.body = some c ∧ resCode Try.prog 52 c = some r78 := ⟨_, rfl, by kernel_rfl⟩
theorem rr78 : resRes Try.prog Try.f78.results.toList = some [] := by kernel_rfl
theorem wn_shift (n : UInt64) (L : List (Nat × AV)) (k : List RT) (Q : AV → AHeap → Prop) (h : AHeap) (x0 x9 x10 x11 : AV)
    (hk : ∀ j, j ≤ 9 → n.toNat / 128 ^ j < 128 → (∀ i, i < j → 128 ≤ n.toNat / 128 ^ i) → RRun Try.prog Try.f78 52 k (Env.get [(0, x0), (5, enc n), (6, i64 (7 * j : Nat)), (9, x9), (10, x10), (11, x11)]) h Q) : ∀ (m j : Nat), j + m = 9 → (∀ i, i < j → 128 ≤ n.toNat / 128 ^ i) →
    RRun Try.prog Try.f78 52 (.inLoop r78l1 :: .inBlock 2 :: k) (Env.get [(0, x0), (5, enc n), (6, i64 (7 * j : Nat)), (9, x9), (10, x10), (11, x11)]) h Q := by
  have hn := UInt64.toNat_lt n
  have stop : ∀ j, j ≤ 9 → n.toNat / 128 ^ j < 128 → (∀ i, i < j → 128 ≤ n.toNat / 128 ^ i) →
    RRun Try.prog Try.f78 52 (.inLoop r78l1 :: .inBlock 2 :: k) (Env.get [(0, x0), (5, enc n), (6, i64 (7 * j : Nat)), (9, x9), (10, x10), (11, x11)]) h Q := by
    intro j hj hlt hall
    have hkj := hk j hj hlt hall
    have hlt' : ¬ (128 : Int) ≤ ((n.toNat / 128 ^ j : Nat) : Int) := by
      generalize n.toNat / 128 ^ j = q at hlt ⊢; omega
    refine RRun.inLoop ?_
    repeat' (first | refine S.nilK ?_ | (refine S.op rfl ?_; first | refine S.shr7 hj rfl rfl ?_ | refine S.geq rfl rfl (fun h => absurd h hlt') (fun _ => ?_) | refine R.mv rfl ?_) | refine S.seq ?_ | refine S.region ?_ | refine S.condF rfl ?_ | refine RRun.exit rfl ?_)
    exact S.keep [0, 5, 6, 9, 10, 11] rfl hkj
  have last : n.toNat / 128 ^ 9 < 128 := by omega
  intro m
  induction m with
  | zero =>
    intro j hj hall
    obtain rfl : j = 9 := by omega
    exact stop 9 (by omega) last hall
  | succ m ih =>
    intro j hj hall
    by_cases hlt : n.toNat / 128 ^ j < 128
    · exact stop j (by omega) hlt hall
    · have hlt' : (128 : Int) ≤ ((n.toNat / 128 ^ j : Nat) : Int) := by
        generalize n.toNat / 128 ^ j = q at hlt ⊢; omega
      have ih' := ih (j + 1) (by omega) (fun i hi => by
        rcases Nat.lt_succ_iff_lt_or_eq.1 hi with h1 | rfl
        · exact hall i h1
        · omega)
      refine RRun.inLoop ?_
      repeat' (first | refine S.nilK ?_ | (refine S.op rfl ?_; first | refine S.shr7 (j := j) (by omega) rfl rfl ?_ | refine S.geq rfl rfl (fun _ => ?_) (fun h => absurd hlt' h) | refine S.addNN (n := 7) rfl rfl (by omega) ?_ | refine R.mv rfl ?_) | refine S.seq ?_ | refine S.region ?_ | refine S.condT rfl ?_ | refine RRun.skip ?_ | refine RRun.block ?_ | refine RRun.inBlock ?_)
      rw [show 7 * j + 7 = 7 * (j + 1) by omega]
      exact S.keep [0, 5, 6, 9, 10, 11] rfl ih'
theorem wn_bytes (n : UInt64) (p : Nat) (h₀ : AHeap) (k : List RT) (Q : AV → AHeap → Prop) (x9 x10 x11 : AV) : ∀ (j : Nat) (acc : List UInt8) (h : AHeap), j ≤ 9 → acc.length + j ≤ 3000000000 → WAt h₀ p acc h →
    (∀ h', WAt h₀ p (acc ++ Go.Proofs.Ytnmgamcmjjngcaa.hk n.toNat j) h' → RRun Try.prog Try.f78 52 k (Env.get [(0, ptr p), (5, enc n), (9, x9), (10, x10), (11, x11)]) h' Q) →
    RRun Try.prog Try.f78 52 (.inLoop r78l2 :: .inBlock 4 :: k) (Env.get [(0, ptr p), (5, enc n), (6, i64 (7 * j : Nat)), (9, x9), (10, x10), (11, x11)]) h Q := by
  have hn := UInt64.toNat_lt n
  intro j
  induction j with
  | zero =>
    intro acc h hj hl hw hkk
    refine RRun.inLoop ?_
    repeat' (first | refine S.nilK ?_ | (refine S.op rfl ?_; first | refine R.mv rfl ?_ | ((first | refine S.gtr rfl rfl ?_ ?_) <;> intro hlt <;> try (exfalso; omega))) | refine S.seq ?_ | refine S.region ?_ | refine S.condF rfl ?_ | refine RRun.exit rfl ?_)
    exact S.keep [0, 5, 9, 10, 11] rfl (hkk h (by simpa [Go.Proofs.Ytnmgamcmjjngcaa.hk] using hw))
  | succ j ih =>
    intro acc h hj hl hw hkk
    obtain ⟨c0, hp, ho, h0p, h0t, hpt, hb⟩ := hw
    have hm : n.toNat / 128 ^ (j + 1) % 256 < 256 := Nat.mod_lt _ (by decide)
    have hmm : n.toNat / 128 ^ (j + 1) % 256 % 128 = n.toNat / 128 ^ (j + 1) % 128 := Nat.mod_mod_of_dvd _ (by decide)
    refine RRun.inLoop ?_
    repeat' (first | refine S.nilK ?_ | (refine S.op rfl ?_; first | refine S.shr7 (j := j + 1) (by omega) rfl rfl ?_ | refine S.conv8N rfl ?_ | refine S.or128 hm rfl ?_ | refine R.mv rfl ?_ | refine R.fieldAddr rfl ?_ | refine R.nilCheck rfl ?_ | refine R.load (by decide) rfl (by (repeat' (first | assumption)); first | done | fail) rfl ?_ | refine R.buildSl rfl rfl rfl (by decide) ?_ | ((first | refine S.gtr rfl rfl ?_ ?_) <;> intro hlt <;> try (exfalso; omega))) | refine S.seq ?_ | refine S.region ?_ | refine S.condT rfl ?_ | refine RRun.skip ?_ | refine RRun.block ?_)
    rw [hmm]
    refine S.op rfl (S.wapp (ys := [UInt8.ofNat (n.toNat / 128 ^ (j + 1) % 128 + 128)]) rfl hp ho h0p h0t hpt hb rfl rfl (.sl _ _) (by simp only [List.length_cons, List.length_nil]; omega) (fun c' h' hp' hw' => ?_))
    repeat' (first | refine S.nilK ?_ | (refine S.op rfl ?_; first | refine S.subNN (n := 7) rfl rfl (by omega) (by omega) ?_ | refine R.mv rfl ?_ | refine R.fieldAddr rfl ?_ | refine R.nilCheck rfl ?_) | (refine S.op0 rfl ?_; first | refine S.store rfl rfl (by (repeat' (first | assumption)); first | done | fail) rfl rfl rfl (by rfl) rfl ?_) | refine S.region ?_ | refine RRun.inBlock ?_)
    rw [show 7 * (j + 1) - 7 = 7 * j by omega]
    refine S.keep [0, 5, 6, 9, 10, 11] rfl (ih _ _ (by omega) (by simp only [List.length_append, List.length_cons, List.length_nil]; omega) hw' (fun h2 hw2 => hkk h2 ?_))
    have : acc ++ Go.Proofs.Ytnmgamcmjjngcaa.hk n.toNat (j + 1) = acc ++ [UInt8.ofNat (n.toNat / 128 ^ (j + 1) % 128 + 128)] ++ Go.Proofs.Ytnmgamcmjjngcaa.hk n.toNat j := by
      simp [Go.Proofs.Ytnmgamcmjjngcaa.hk]
    rw [this]; exact hw2
end Go.Proofs.Ytnmgamcmjjngcaa
