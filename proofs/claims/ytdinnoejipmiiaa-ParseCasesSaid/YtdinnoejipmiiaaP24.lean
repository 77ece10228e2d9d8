/-
  ParseCases answers true for every text: a text without a quote reads the same, small or great its letters. No condition.
-/
import Derived.Test.YtdinnoejipmiiaaP23
import Derived.Test.YtdinnoejipmiiaaP16
set_option linter.unusedVariables false
set_option linter.unusedSimpArgs false
namespace Go.Proofs.Ytdinnoejipmiiaa
open Go.Av
abbrev bysC (l : List UInt8) (c : Cap) : AV := .sl 1 (Go.Av.byteCells l) c
def WAt (h₀ : AHeap) (p : Nat) (acc : List UInt8) (h : AHeap) : Prop :=
  ∃ c, h p = some (.box [bysC acc c]) ∧ OwnT h c ∧ h₀ p = none ∧ (∀ x, TokC c x → h₀ x = none) ∧ ¬ TokC c p ∧ ∀ x o, h₀ x = some o → h x = some o
theorem WAt.le {h₀ h : AHeap} {p : Nat} {acc : List UInt8} (hw : WAt h₀ p acc h) : h₀.le h := fun x o e => by
  obtain ⟨c, _, _, _, _, _, hb⟩ := hw
  exact ⟨o, hb x o e, .refl o⟩
theorem WAt.up {h₀ h : AHeap} {p : Nat} {acc : List UInt8} (hw : WAt h₀ p acc h) {b : Nat} {o : ABlk} (hb : h b = none) : WAt (h₀.set b o) p acc (h.set b o) := by
  obtain ⟨c, h1, h2, h3, h4, h5, h6⟩ := hw
  have hbp : p ≠ b := fun e => by subst e; rw [hb] at h1; cases h1
  have hbt : ∀ x, TokC c x → x ≠ b := fun x hx e => by subst e; exact ownT_own h2 x hx hb
  refine ⟨c, (AHeap.set_other _ _ hbp).trans h1, ownT_loc h2 fun x hx => AHeap.set_other _ _ (hbt x hx), (AHeap.set_other _ _ hbp).trans h3, fun x hx => (AHeap.set_other _ _ (hbt x hx)).trans (h4 x hx), h5, fun x y e => ?_⟩
  by_cases hx : x = b
  · subst hx; rw [AHeap.set_same] at e ⊢; exact e
  · rw [AHeap.set_other _ _ hx] at e ⊢; exact h6 x y e
theorem WAt.free {h₀ h : AHeap} {p : Nat} {acc : List UInt8} (hw : WAt h₀ p acc h) {b : Nat} (hb : h b = none) : h₀ b = none := by
  obtain ⟨c, h1, h2, h3, h4, h5, h6⟩ := hw
  cases e : h₀ b with
  | none => rfl
  | some o => rw [h6 b o e] at hb; cases hb
theorem WAt.at {h₀ h : AHeap} {p : Nat} {acc : List UInt8} {b : Nat} {o : ABlk} (hw : WAt (h₀.set b o) p acc h) : h b = some o := by
  obtain ⟨c, h1, h2, h3, h4, h5, h6⟩ := hw
  exact h6 b o (AHeap.set_same _ _ _)
end Go.Proofs.Ytdinnoejipmiiaa

namespace Go.Proofs.Ytdinnoejipmiiaa
open Go.Av
def rowJ (f : UInt8 → UInt8) (w : List UInt8) (j : Nat) (sp : List AV) : List AV := (w.take j).map (fun c => u8 (f c)) ++ (w.drop j).map u8 ++ sp
section
variable {f : UInt8 → UInt8} {w : List UInt8} {j : Nat} {sp : List AV}
theorem rowJ_ld (hj : j < w.length) : loadAV false 1 ((rowJ f w j sp).drop (0 + ((j : Nat) : Int).toNat * 1)) = some (u8 w[j]) := by
  have e : 0 + ((j : Nat) : Int).toNat * 1 = ((w.take j).map (fun c => u8 (f c))).length := by simp; omega
  unfold rowJ
  rw [e, List.append_assoc, List.drop_left, List.drop_eq_getElem_cons hj]
  rfl
theorem rowJ_set (hj : j < w.length) : (rowJ f w j sp).set (0 + ((j : Nat) : Int).toNat * 1) (u8 (f w[j])) = rowJ f w (j + 1) sp := by
  have e : 0 + ((j : Nat) : Int).toNat * 1 = ((w.take j).map (fun c => u8 (f c))).length := by simp; omega
  have ht : w.take (j + 1) = w.take j ++ [w[j]] := by rw [List.take_add_one]; simp [hj]
  unfold rowJ
  rw [e, List.append_assoc, List.set_append_right _ _ (Nat.le_refl _), Nat.sub_self, List.drop_eq_getElem_cons hj, List.map_cons, List.cons_append, List.set_cons_zero, ht, List.map_append, List.map_cons, List.map_nil]
  simp only [List.append_assoc, List.cons_append, List.nil_append]
theorem rowJ_same (hj : j < w.length) (h : f w[j] = w[j]) : rowJ f w (j + 1) sp = rowJ f w j sp := by
  have ht : w.take (j + 1) = w.take j ++ [w[j]] := by rw [List.take_add_one]; simp [hj]
  unfold rowJ
  rw [ht, List.map_append, List.map_cons, List.map_nil, h, List.drop_eq_getElem_cons hj]
  simp only [List.append_assoc, List.cons_append, List.nil_append, List.map_cons]
theorem rowJ_fit (hj : j < w.length) : 0 + ((j : Nat) : Int).toNat * 1 < (rowJ f w j sp).length := by unfold rowJ; simp; omega
theorem rowJ_end : rowJ f w w.length sp = w.map (fun c => u8 (f c)) ++ sp := by unfold rowJ; simp
theorem rowJ_zero : rowJ f w 0 sp = w.map u8 ++ sp := by unfold rowJ; simp
end
theorem small_nat (c : UInt8) : ((65 ≤ c.toNat ∧ c.toNat ≤ 90) → (small c).toNat = c.toNat + 32) ∧ (¬ (65 ≤ c.toNat ∧ c.toNat ≤ 90) → small c = c) := by
  have : ∀ n : Fin 256, let c := UInt8.ofNat n.val; ((65 ≤ c.toNat ∧ c.toNat ≤ 90) → (small c).toNat = c.toNat + 32) ∧ (¬ (65 ≤ c.toNat ∧ c.toNat ≤ 90) → small c = c) := by decide +kernel
  have h := this ⟨c.toNat, UInt8.toNat_lt c⟩
  simp only [UInt8.ofNat_toNat] at h
  exact h
theorem big_nat (c : UInt8) : ((97 ≤ c.toNat ∧ c.toNat ≤ 122) → (big c).toNat + 32 = c.toNat) ∧ (¬ (97 ≤ c.toNat ∧ c.toNat ≤ 122) → big c = c) := by
  have : ∀ n : Fin 256, let c := UInt8.ofNat n.val; ((97 ≤ c.toNat ∧ c.toNat ≤ 122) → (big c).toNat + 32 = c.toNat) ∧ (¬ (97 ≤ c.toNat ∧ c.toNat ≤ 122) → big c = c) := by decide +kernel
  have h := this ⟨c.toNat, UInt8.toNat_lt c⟩
  simp only [UInt8.ofNat_toNat] at h
  exact h
def r4l0 : RCode :=
  (.seq (.region [
    ⟨(some 25), none, .act, .bin .lss (.tmp 24) (.tmp 23)⟩])
  (.seq (.cond (.tmp 25)
   .skip
   (.exit 0))
  (.seq (.block 1
   (.seq (.region [
     ⟨(some 26), none, .act, .mv (.tmp 24)⟩,
     ⟨(some 5), none, .act, .mv (.tmp 26)⟩])
   (.seq (.region [
     ⟨(some 27), none, .act, .mv (.tmp 3)⟩,
     ⟨(some 28), none, .act, .mv (.tmp 5)⟩,
     ⟨(some 29), none, .act, .indexAddr 1 (.tmp 27) (.tmp 28)⟩,
     ⟨(some 30), none, .act, .load false 1 (.tmp 29)⟩,
     ⟨(some 6), none, .act, .mv (.tmp 30)⟩])
   (.block 2
    (.seq (.region [
      ⟨(some 32), none, .act, .mv (.tmp 6)⟩,
      ⟨(some 33), none, .act, .eq false .int (.tmp 32) (.const (.int .u8 39))⟩,
      ⟨(some 31), none, .act, .mv (.tmp 33)⟩])
    (.cond (.tmp 31)
     (.seq (.region [
       ⟨(some 2), none, .act, .mv (.const (.bool true))⟩])
     .ret)
     (.seq (.region [
       ⟨(some 35), none, .act, .mv (.tmp 6)⟩,
       ⟨(some 36), none, .act, .bin .geq (.tmp 35) (.const (.int .u8 65))⟩,
       ⟨(some 37), none, .act, .mv (.tmp 36)⟩,
       ⟨(some 38), (some (37, true)), .act, .mv (.tmp 6)⟩,
       ⟨(some 39), (some (37, true)), .act, .bin .leq (.tmp 38) (.const (.int .u8 90))⟩,
       ⟨(some 40), none, .act, .pick (.tmp 37) (.tmp 39) (.const (.bool false))⟩,
       ⟨(some 34), none, .act, .mv (.tmp 40)⟩])
     (.cond (.tmp 34)
      (.region [
        ⟨(some 41), none, .act, .mv (.tmp 3)⟩,
        ⟨(some 42), none, .act, .mv (.tmp 5)⟩,
        ⟨(some 43), none, .act, .mv (.tmp 6)⟩,
        ⟨(some 44), none, .act, .bin .add (.tmp 43) (.const (.int .u8 97))⟩,
        ⟨(some 45), none, .act, .bin .sub (.tmp 44) (.const (.int .u8 65))⟩,
        ⟨(some 46), none, .act, .indexAddr 1 (.tmp 41) (.tmp 42)⟩,
        ⟨none, none, .act, .store 1 (.tmp 46) (.tmp 45)⟩])
      (.seq (.region [
        ⟨(some 48), none, .act, .mv (.tmp 6)⟩,
        ⟨(some 49), none, .act, .bin .geq (.tmp 48) (.const (.int .u8 97))⟩,
        ⟨(some 50), none, .act, .mv (.tmp 49)⟩,
        ⟨(some 51), (some (50, true)), .act, .mv (.tmp 6)⟩,
        ⟨(some 52), (some (50, true)), .act, .bin .leq (.tmp 51) (.const (.int .u8 122))⟩,
        ⟨(some 53), none, .act, .pick (.tmp 50) (.tmp 52) (.const (.bool false))⟩,
        ⟨(some 47), none, .act, .mv (.tmp 53)⟩])
      (.cond (.tmp 47)
       (.region [
         ⟨(some 54), none, .act, .mv (.tmp 4)⟩,
         ⟨(some 55), none, .act, .mv (.tmp 5)⟩,
         ⟨(some 56), none, .act, .mv (.tmp 6)⟩,
         ⟨(some 57), none, .act, .bin .sub (.tmp 56) (.const (.int .u8 97))⟩,
         ⟨(some 58), none, .act, .bin .add (.tmp 57) (.const (.int .u8 65))⟩,
         ⟨(some 59), none, .act, .indexAddr 1 (.tmp 54) (.tmp 55)⟩,
         ⟨none, none, .act, .store 1 (.tmp 59) (.tmp 58)⟩])
       .skip))))))))))
  (.region [
    ⟨(some 60), none, .act, .bin .add (.tmp 24) (.const (.int .i64 1))⟩,
    ⟨(some 24), none, .act, .mv (.tmp 60)⟩]))))
def r4 : RCode :=
  (.seq (.region [
    ⟨(some 2), none, .act, .mv (.const (.bool false))⟩])
  (.seq (.seq (.region [
    ⟨(some 13), none, .act, .call 5 []⟩,
    ⟨(some 14), none, .act, .un .not (.tmp 13)⟩])
  (.cond (.tmp 14)
   (.seq (.region [
     ⟨(some 2), none, .act, .mv (.const (.bool false))⟩])
   .ret)
   .skip))
  (.seq (.seq (.region [
    ⟨(some 15), none, .act, .mv (.tmp 0)⟩,
    ⟨(some 16), none, .act, .lenStr (.tmp 15)⟩,
    ⟨(some 17), none, .act, .bin .gtr (.tmp 16) (.const (.int .i64 2000))⟩])
  (.cond (.tmp 17)
   (.seq (.region [
     ⟨(some 2), none, .act, .mv (.const (.bool true))⟩])
   .ret)
   .skip))
  (.seq (.region [
    ⟨(some 18), none, .act, .mv (.tmp 0)⟩,
    ⟨(some 19), none, .act, .toBytes (.tmp 18)⟩,
    ⟨(some 20), none, .act, .mv (.tmp 0)⟩,
    ⟨(some 21), none, .act, .toBytes (.tmp 20)⟩,
    ⟨(some 3), none, .act, .mv (.tmp 19)⟩,
    ⟨(some 4), none, .act, .mv (.tmp 21)⟩])
  (.seq (.seq (.region [
    ⟨(some 22), none, .act, .mv (.tmp 3)⟩,
    ⟨(some 23), none, .act, .len (.tmp 22)⟩,
    ⟨(some 24), none, .act, .mv (.const (.int .i64 0))⟩])
  (.block 0
   (.loop r4l0)))
  (.seq (.region [
    ⟨(some 62), none, .act, .mv (.tmp 3)⟩,
    ⟨(some 63), none, .act, .toStr (.tmp 62)⟩,
    ⟨(some 64), none, .act, .call 9 [(.tmp 63)]⟩,
    ⟨(some 61), none, .act, .mv (.tmp 64)⟩,
    ⟨(some 65), none, .act, .extract (.tmp 61) 0⟩,
    ⟨(some 66), none, .act, .extract (.tmp 61) 1⟩,
    ⟨(some 67), none, .act, .extract (.tmp 61) 2⟩,
    ⟨(some 7), none, .act, .alloc [(.int .i64 0), (.string ⟨#[]⟩), (.int .i64 0), (.string ⟨#[]⟩), (.slice none 0 0), (.int .i64 0), (.slice none 0 0), (.slice none 0 0), (.slice none 0 0), (.bool false), (.slice none 0 0), (.string ⟨#[]⟩), (.string ⟨#[]⟩), (.slice none 0 0), (.slice none 0 0), (.slice none 0 0), (.slice none 0 0), (.int .i64 0), (.bool false), (.int .i64 0)]⟩,
    ⟨none, none, .act, .store 20 (.tmp 7) (.tmp 65)⟩,
    ⟨(some 8), none, .act, .mv (.tmp 66)⟩,
    ⟨(some 9), none, .act, .mv (.tmp 67)⟩])
  (.seq (.region [
    ⟨(some 69), none, .act, .mv (.tmp 4)⟩,
    ⟨(some 70), none, .act, .toStr (.tmp 69)⟩,
    ⟨(some 71), none, .act, .call 9 [(.tmp 70)]⟩,
    ⟨(some 68), none, .act, .mv (.tmp 71)⟩,
    ⟨(some 72), none, .act, .extract (.tmp 68) 0⟩,
    ⟨(some 73), none, .act, .extract (.tmp 68) 1⟩,
    ⟨(some 74), none, .act, .extract (.tmp 68) 2⟩,
    ⟨(some 10), none, .act, .alloc [(.int .i64 0), (.string ⟨#[]⟩), (.int .i64 0), (.string ⟨#[]⟩), (.slice none 0 0), (.int .i64 0), (.slice none 0 0), (.slice none 0 0), (.slice none 0 0), (.bool false), (.slice none 0 0), (.string ⟨#[]⟩), (.string ⟨#[]⟩), (.slice none 0 0), (.slice none 0 0), (.slice none 0 0), (.slice none 0 0), (.int .i64 0), (.bool false), (.int .i64 0)]⟩,
    ⟨none, none, .act, .store 20 (.tmp 10) (.tmp 72)⟩,
    ⟨(some 11), none, .act, .mv (.tmp 73)⟩,
    ⟨(some 12), none, .act, .mv (.tmp 74)⟩])
  (.seq (.region [
    ⟨(some 75), none, .act, .mv (.tmp 9)⟩,
    ⟨(some 76), none, .act, .mv (.tmp 12)⟩,
    ⟨(some 77), none, .act, .eq false .int (.tmp 75) (.tmp 76)⟩,
    ⟨(some 78), none, .act, .mv (.tmp 77)⟩,
    ⟨(some 79), (some (78, true)), .act, .mv (.tmp 8)⟩,
    ⟨(some 80), (some (78, true)), .act, .mv (.tmp 11)⟩,
    ⟨(some 81), (some (78, true)), .act, .eq false .int (.tmp 79) (.tmp 80)⟩,
    ⟨(some 82), none, .act, .pick (.tmp 78) (.tmp 81) (.const (.bool false))⟩,
    ⟨(some 83), none, .act, .mv (.tmp 82)⟩,
    ⟨(some 84), (some (83, true)), .act, .load true 20 (.tmp 7)⟩,
    ⟨(some 85), (some (83, true)), .act, .load true 20 (.tmp 10)⟩,
    ⟨(some 86), (some (83, true)), .act, .call 10 [(.tmp 84), (.tmp 85)]⟩,
    ⟨(some 87), none, .act, .pick (.tmp 83) (.tmp 86) (.const (.bool false))⟩,
    ⟨(some 2), none, .act, .mv (.tmp 87)⟩])
  .ret))))))))
theorem res4 : ∃ c, Try.f4.body = some c ∧ resCode Try.prog 88 c = some r4 := ⟨_, rfl, by kernel_rfl⟩
theorem rr4 : resRes Try.prog Try.f4.results.toList = some [.tmp 2] := by kernel_rfl
theorem law_loop (w : List UInt8) (hl : w.length ≤ 4611686018427387904) (r1 r2 c1 c2 : Nat) (sp1 sp2 : List AV) (h0 : AHeap) (hne : r1 ≠ r2) (k : List RT) (Q : AV → AHeap → Prop) (hret : ∀ A B, Q (bl true) ((h0.set r1 (.row A)).set r2 (.row B)))
    (hk : (∀ c ∈ w, c ≠ 39) → RRun Try.prog Try.f4 88 k (Env.get [(3, slAt r1 0 w.length c1), (4, slAt r2 0 w.length c2)]) ((h0.set r1 (.row (rowJ small w w.length sp1))).set r2 (.row (rowJ big w w.length sp2))) Q) : ∀ (m j : Nat), j + m = w.length → (∀ c ∈ w.take j, c ≠ 39) →
    RRun Try.prog Try.f4 88 (.inLoop r4l0 :: .inBlock 0 :: k) (Env.get [(3, slAt r1 0 w.length c1), (4, slAt r2 0 w.length c2), (23, i64 w.length), (24, i64 j)]) ((h0.set r1 (.row (rowJ small w j sp1))).set r2 (.row (rowJ big w j sp2))) Q := by
  intro m
  induction m with
  | zero =>
    intro j hj hn
    obtain rfl : j = w.length := by omega
    rw [List.take_length] at hn
    have hk := hk hn
    refine RRun.inLoop ?_
    repeat' (first | refine S.nilK ?_ | (refine S.op rfl ?_; first | ((first | refine S.lss rfl rfl ?_ ?_) <;> intro hlt <;> try (exfalso; omega))) | refine S.seq ?_ | refine S.region ?_ | refine S.condF rfl ?_ | refine RRun.exit rfl ?_)
    exact S.keep [3, 4] rfl hk
  | succ m ih =>
    intro j hj hn
    have hlt : j < w.length := by omega
    have hr1 : ((h0.set r1 (.row (rowJ small w j sp1))).set r2 (.row (rowJ big w j sp2))) r1 = some (.row (rowJ small w j sp1)) := (AHeap.set_other _ _ hne).trans (AHeap.set_same _ _ _)
    have hr2 : ((h0.set r1 (.row (rowJ small w j sp1))).set r2 (.row (rowJ big w j sp2))) r2 = some (.row (rowJ big w j sp2)) := AHeap.set_same _ _ _
    have hld := rowJ_ld (f := small) (sp := sp1) hlt
    have hs1 := rowJ_set (f := small) (sp := sp1) hlt
    have hs2 := rowJ_set (f := big) (sp := sp2) hlt
    have hf1 := rowJ_fit (f := small) (sp := sp1) hlt
    have hf2 := rowJ_fit (f := big) (sp := sp2) hlt
    have he1 := rowJ_same (f := small) (sp := sp1) hlt
    have he2 := rowJ_same (f := big) (sp := sp2) hlt
    have hn2 : w[j] ≠ 39 → ∀ c ∈ w.take (j + 1), c ≠ 39 := fun h c hc => by
      rw [List.take_add_one, List.getElem?_eq_getElem hlt] at hc
      rcases List.mem_append.1 hc with hc | hc
      · exact hn c hc
      · simp only [Option.toList_some, List.mem_singleton] at hc
        rw [hc]; exact h
    have next := fun h => ih (j + 1) (by omega) (hn2 h)
    rw [show ((j + 1 : Nat) : Int) = (j : Int) + 1 by omega] at next
    clear ih hn2 hn hk
    generalize w[j] = ch at *
    have hcl := ch.toNat_lt
    have n1 := small_nat ch
    have n2 := big_nat ch
    refine RRun.inLoop ?_
    by_cases h39 : ch.toNat = 39
    · repeat' (first | refine S.nilK ?_ | (refine S.op rfl ?_; first | refine R.indexAddrV rfl rfl (by omega) (by omega) ?_ | refine R.loadRow (by decide) rfl hr1 hld ?_ | refine R.mv rfl ?_ | ((first | refine S.lss rfl rfl ?_ ?_ | refine S.eqInt rfl rfl ?_ ?_) <;> intro hlt <;> try (exfalso; omega))) | refine S.seq ?_ | refine S.region ?_ | refine S.condT rfl ?_ | refine RRun.skip ?_ | refine RRun.block ?_)
      apply S.ret rr4
      case hx => repeat (first | exact ResAt.nil | apply ResAt.tmp rfl)
      exact hret _ _
    · have next := next (fun e => h39 (by rw [e]; rfl))
      by_cases hup : 65 ≤ ch.toNat ∧ ch.toNat ≤ 90
      · have hu : u8 (small ch) = .v (.int .u8 (IntKind.u8.wrap (IntKind.u8.wrap ((ch.toNat : Int) + 97) - 65))) := by
          have e1 : IntKind.u8.wrap ((ch.toNat : Int) + 97) = (ch.toNat : Int) + 97 := wrap_u8 (by omega) (by omega)
          rw [e1, wrap_u8 (by omega) (by omega)]
          show AV.v (.int .u8 _) = _
          have := n1.1 hup
          rw [show ((small ch).toNat : Int) = (ch.toNat : Int) + 97 - 65 by omega]
        rw [he2 (n2.2 (by omega))] at next
        rw [← hs1, hu] at next
        clear hs1 hs2 he1 he2 n1 n2 hu hr2 hf2 hret
        repeat' (first | (refine S.op0 rfl (R.storeRow rfl rfl hr1 rfl rfl hf1 ?_)) | refine S.nilK ?_ | (refine S.op rfl ?_; first | refine R.indexAddrV rfl rfl (by omega) (by omega) ?_ | refine R.loadRow (by decide) rfl hr1 hld ?_ | (show ROpS _ _ (.bin .sub _ (.const (.int .u8 65))) _ _ _; refine S.arith rfl rfl rfl ?_) | (show ROpS _ _ (.bin .add _ (.const (.int .u8 97))) _ _ _; refine S.arith rfl rfl rfl ?_) | refine R.mv rfl ?_ | refine S.addI rfl rfl (by omega) ?_ | refine R.pickT rfl rfl ?_ | ((first | refine S.lss rfl rfl ?_ ?_ | refine S.leq rfl rfl ?_ ?_ | refine S.geq rfl rfl ?_ ?_ | refine S.eqInt rfl rfl ?_ ?_) <;> intro hlt <;> try (exfalso; omega))) | refine S.seq ?_ | refine S.region ?_ | refine S.condT rfl ?_ | refine S.condF rfl ?_ | refine RRun.skip ?_ | refine RRun.block ?_ | refine RRun.inBlock ?_)
        refine S.keep [3, 4, 23, 24] rfl ?_
        rw [AHeap.set_comm _ _ _ (Ne.symm hne), AHeap.set_set]
        exact next
      · by_cases hlo : 97 ≤ ch.toNat ∧ ch.toNat ≤ 122
        · have hu : u8 (big ch) = .v (.int .u8 (IntKind.u8.wrap (IntKind.u8.wrap ((ch.toNat : Int) - 97) + 65))) := by
            have e1 : IntKind.u8.wrap ((ch.toNat : Int) - 97) = (ch.toNat : Int) - 97 := wrap_u8 (by omega) (by omega)
            rw [e1, wrap_u8 (by omega) (by omega)]
            show AV.v (.int .u8 _) = _
            have := n2.1 hlo
            rw [show ((big ch).toNat : Int) = (ch.toNat : Int) - 97 + 65 by omega]
          rw [he1 (n1.2 hup)] at next
          rw [← hs2, hu] at next
          clear hs1 hs2 he1 he2 n1 n2 hu hf1 hret
          repeat' (first | (refine S.op0 rfl (R.storeRow rfl rfl hr2 rfl rfl hf2 ?_)) | refine S.nilK ?_ | (refine S.op rfl ?_; first | refine R.indexAddrV rfl rfl (by omega) (by omega) ?_ | refine R.loadRow (by decide) rfl hr1 hld ?_ | (show ROpS _ _ (.bin .sub _ (.const (.int .u8 97))) _ _ _; refine S.arith rfl rfl rfl ?_) | (show ROpS _ _ (.bin .add _ (.const (.int .u8 65))) _ _ _; refine S.arith rfl rfl rfl ?_) | refine R.mv rfl ?_ | refine S.addI rfl rfl (by omega) ?_ | refine R.pickT rfl rfl ?_ | ((first | refine S.lss rfl rfl ?_ ?_ | refine S.leq rfl rfl ?_ ?_ | refine S.geq rfl rfl ?_ ?_ | refine S.eqInt rfl rfl ?_ ?_) <;> intro hlt <;> try (exfalso; omega))) | refine S.seq ?_ | refine S.region ?_ | refine S.condT rfl ?_ | refine S.condF rfl ?_ | refine RRun.skip ?_ | refine RRun.block ?_ | refine RRun.inBlock ?_)
          refine S.keep [3, 4, 23, 24] rfl ?_
          rw [AHeap.set_set]
          exact next
        · rw [he1 (n1.2 hup), he2 (n2.2 hlo)] at next
          clear hs1 hs2 he1 he2 n1 n2 hf1 hf2 hret
          repeat' (first | refine S.nilK ?_ | (refine S.op rfl ?_; first | refine R.indexAddrV rfl rfl (by omega) (by omega) ?_ | refine R.loadRow (by decide) rfl hr1 hld ?_ | refine R.mv rfl ?_ | refine S.addI rfl rfl (by omega) ?_ | refine R.pickT rfl rfl ?_ | refine R.pickF rfl rfl ?_ | ((first | refine S.lss rfl rfl ?_ ?_ | refine S.leq rfl rfl ?_ ?_ | refine S.geq rfl rfl ?_ ?_ | refine S.eqInt rfl rfl ?_ ?_) <;> intro hlt <;> try (exfalso; omega))) | refine S.skip rfl ?_ | refine S.seq ?_ | refine S.region ?_ | refine S.condT rfl ?_ | refine S.condF rfl ?_ | refine RRun.skip ?_ | refine RRun.block ?_ | refine RRun.inBlock ?_)
          all_goals exact S.keep [3, 4, 23, 24] rfl next
end Go.Proofs.Ytdinnoejipmiiaa

namespace Go.Av
structure OAt (h₀ : AHeap) (ps : List Nat) (c : Cap) (h : AHeap) : Prop where
  own : OwnT h c
  tok : ∀ x, TokC c x → h₀ x = none
  fr : ∀ x o, h₀ x = some o → x ∉ ps → h x = some o
theorem OAt.start (h : AHeap) (ps : List Nat) : OAt h ps .full h := ⟨.inl rfl, fun x ⟨u, s, e⟩ => (by cases e), fun x o e _ => e⟩
theorem OAt.set {h₀ h : AHeap} {ps : List Nat} {c : Cap} (ho : OAt h₀ ps c h) {x : Nat} {o o' : ABlk} (hx : h₀ x = some o) (hm : x ∈ ps) : OAt h₀ ps c (h.set x o') :=
  ⟨ownT_loc ho.own fun y hy => AHeap.set_other _ _ (fun e => by subst e; rw [ho.tok y hy] at hx; cases hx), ho.tok, fun y o2 e hn => by
    rw [AHeap.set_other _ _ (fun e' => by subst e'; exact hn hm)]; exact ho.fr y o2 e hn⟩
theorem OAt.loc {h₀ h : AHeap} {ps : List Nat} {c : Cap} (ho : OAt h₀ ps c h) {b : Nat} {o : ABlk} (hb : h b = none) : OAt h₀ ps c (h.set b o) :=
  ⟨ownT_loc ho.own fun y hy => AHeap.set_other _ _ (fun e => by subst e; exact ownT_own ho.own y hy hb), ho.tok, fun y o2 e hn => by
    have := ho.fr y o2 e hn
    rw [AHeap.set_other _ _ (fun e' => by subst e'; rw [hb] at this; cases this)]; exact this⟩
theorem OAt.grow {h₀ h h' : AHeap} {ps : List Nat} {c c' : Cap} (ho : OAt h₀ ps c h) (hps : ∀ x ∈ ps, h x ≠ none) (g1 : OwnT h' c') (g2 : ∀ x o, h x = some o → ¬ TokC c x → h' x = some o) (g3 : ∀ x, TokC c' x → TokC c x ∨ h x = none) : OAt h₀ ps c' h' :=
  have hn : ∀ x, h x = none → h₀ x = none := fun x e => by
    cases e0 : h₀ x with
    | none => rfl
    | some o =>
      by_cases hm : x ∈ ps
      · exact absurd e (hps x hm)
      · rw [ho.fr x o e0 hm] at e; cases e
  ⟨g1, fun x hx => (g3 x hx).elim (ho.tok x) (hn x), fun x o e hn => g2 x o (ho.fr x o e hn) fun ht => by rw [ho.tok x ht] at e; cases e⟩
theorem OAt.not {h₀ h : AHeap} {ps : List Nat} {c : Cap} (ho : OAt h₀ ps c h) {x : Nat} {o : ABlk} (hx : h₀ x = some o) : ¬ TokC c x := fun ht => by rw [ho.tok x ht] at hx; cases hx
theorem OAt.notH {h₀ h : AHeap} {ps : List Nat} {c : Cap} (ho : OAt h₀ ps c h) {x : Nat} {cs : List AV} (hx : h x = some (.box cs)) : ¬ TokC c x := fun ⟨u, s, e⟩ => by
  rcases ho.own with e2 | ⟨b, u', s', e2, e3⟩
  · rw [e2] at e; cases e
  · rw [e2] at e; cases e; rw [hx] at e3; cases e3
theorem S.appO {P : Program} {c : Cls} {E : AEnv} {h h₀ : AHeap} {ps : List Nat} {K : AV → AHeap → Prop} {sz bytes : Nat} {zero : List Value} {x y : Operand} {s : AV} {xs ys : List (List AV)} {c0 : Cap} (hc : c = .act) (ho : OAt h₀ ps c0 h) (hps : ∀ x ∈ ps, h x ≠ none)
    (hx : aev E x = some (.sl sz xs c0)) (hy : aev E y = some s) (hs : Src sz s ys) (hone : ∀ e ∈ ys, ∀ a ∈ e, a.one = true) (hlen : xs.length + ys.length ≤ 4611686018427387904) (hb : (xs.length + ys.length) * bytes ≤ 140737488355328)
    (hk : ∀ c' h', OAt h₀ ps c' h' → (∀ x cs, h x = some (.box cs) → h' x = some (.box cs)) → (∀ x o, h x = some (.keep o) → h' x = some (.keep o)) → K (.sl sz (xs ++ ys) c') h') : ROpS P c (.append sz bytes zero x y) E h K := by
  refine S.appendT hc ho.own hx (.sl _ _) hy hs hone hlen hb (fun c' h' q1 q2 q3 => hk c' h' (ho.grow hps q1 q2 q3) (fun x cs e => q2 x _ e fun ⟨u, s, e2⟩ => ?_) (fun x cs e => q2 x _ e fun ⟨u, s, e2⟩ => ?_))
  · rcases ho.own with e3 | ⟨b, u', s', e3, e4⟩
    · rw [e3] at e2; cases e2
    · rw [e3] at e2; cases e2; rw [e] at e4; cases e4
  · rcases ho.own with e3 | ⟨b, u', s', e3, e4⟩
    · rw [e3] at e2; cases e2
    · rw [e3] at e2; cases e2; rw [e] at e4; cases e4
theorem Glob.kept {h h' : AHeap} (hg : Glob h) (g : ∀ x o, h x = some (.keep o) → h' x = some (.keep o)) : Glob h' := by
  obtain ⟨o, m, h0, hc⟩ := hg
  exact ⟨o, m, g 0 _ h0, hc⟩
theorem OAt.le1 {h₀ h : AHeap} {p : Nat} {c : Cap} {o : ABlk} (ho : OAt h₀ [p] c h) (hp : h p = some o) : (h₀.set p o).le h := fun x y e => by
  by_cases hx : x = p
  · subst hx; rw [AHeap.set_same] at e; cases e; exact ⟨_, hp, .refl _⟩
  · rw [AHeap.set_other _ _ hx] at e; exact ⟨y, ho.fr x y e (by simpa using hx), .refl _⟩
theorem Glob.keep {h h' : AHeap} (hg : Glob h) (g : ∀ x o, h x = some o → (∀ u s, o ≠ .grow u s) → h' x = some o) : Glob h' := by
  obtain ⟨o, m, h0, hc⟩ := hg
  exact ⟨o, m, g 0 _ h0 (fun u s e => by cases e), hc⟩
end Go.Av
namespace Go.Proofs.Ytdinnoejipmiiaa
open Go.Av
open Go.Av.Pa (PS atP isP wrongP takeP needP kindP nameP opsP operatorP enterP ev exprP expressionP)
theorem grow_keep {h h' : AHeap} {c : Cap} (ho : OwnT h c) (g2 : ∀ x o, h x = some o → ¬ TokC c x → h' x = some o) : ∀ x o, h x = some o → (∀ u s, o ≠ .grow u s) → h' x = some o := fun x o e hn => g2 x o e fun ⟨u, s, e2⟩ => by
  rcases ho with e3 | ⟨b, u', s', e3, e4⟩
  · rw [e3] at e2; cases e2
  · rw [e3] at e2; cases e2; rw [e] at e4; cases e4; exact hn _ _ rfl
def Goes (T : List Tok) (st st' : PS) : Prop := st.i ≤ st'.i ∧ st'.i ≤ T.length ∧ st'.d = st.d
section
variable {T : List Tok} {fin : Int}
theorem Goes.refl {st : PS} (hi : st.i ≤ T.length) : Goes T st st := ⟨Nat.le_refl _, hi, rfl⟩
theorem Goes.trans {a b c : PS} (h1 : Goes T a b) (h2 : Goes T b c) : Goes T a c := ⟨Nat.le_trans h1.1 h2.1, h2.2.1, h2.2.2.trans h1.2.2⟩
theorem Goes.next {st : PS} (hi : st.i < T.length) : Goes T st st.next := ⟨Nat.le_succ _, hi, rfl⟩
theorem goes_need {st : PS} (hi : st.i ≤ T.length) (r : List (List UInt8)) : Goes T st (needP T fin st r) := need_facts hi r
theorem goes_wrong {st : PS} (hi : st.i ≤ T.length) : Goes T st (wrongP T fin st) := ⟨by rw [Pa.wrong_i]; exact Nat.le_refl _, by rw [Pa.wrong_i]; exact hi, Pa.wrong_flat st⟩
theorem goes_fail {st : PS} (hi : st.i ≤ T.length) (a e : Int) : Goes T st (st.fail a e) := ⟨by rw [Pa.fail_i]; exact Nat.le_refl _, by rw [Pa.fail_i]; exact hi, Pa.fail_flat st a e⟩
theorem goes_name {st : PS} (hi : st.i ≤ T.length) : Goes T st (nameP T fin st).2 := ⟨(Pa.name_up st hi).1, (Pa.name_up st hi).2, Pa.name_flat st⟩
theorem goes_num {st : PS} (hi : st.i ≤ T.length) : Goes T st (numP T fin st).2 := by
  have h1 := Pa.kind_up (l := T) st 2 hi
  have h2 := Pa.kind_flat (l := T) st 2
  unfold numP
  generalize kindP T st 2 = r at *
  obtain ⟨o, s⟩ := r
  cases o with
  | some t => exact ⟨h1.1, h1.2, h2⟩
  | none => exact Goes.trans ⟨h1.1, h1.2, h2⟩ (goes_wrong h1.2)
theorem expr_ex (hT : TOk T) (st : PS) (hi : st.i ≤ T.length) (hd : st.d ≤ 20) : ∃ (e : Pa.Ex) (st' : PS), Goes T st st' ∧ PC T fin 12 [] st (.ag e.cells) st' := by
  cases he : exprP T fin st with
  | mk e s =>
    have := expr_spec (fin := fin) hT st hi hd
    rw [he] at this
    exact ⟨e, s, expr_facts hi he, this⟩
theorem ex_parts (e : Pa.Ex) : ∃ op t nm n vk vn vs ars, e = .mk op t nm n ⟨vk, vn, vs⟩ ars := by
  obtain ⟨op, t, nm, n, ⟨vk, vn, vs⟩, ars⟩ := e
  exact ⟨_, _, _, _, _, _, _, _, rfl⟩
def r50l0 : RCode :=
  (.seq (.seq (.region [
    ⟨(some 7), none, .act, .mv (.tmp 0)⟩,
    ⟨(some 8), none, .act, .call 30 [(.tmp 7), (.const (.string ⟨#[44]⟩))]⟩])
  (.cond (.tmp 8)
   .skip
   (.exit 0)))
  (.block 1
   (.region [
     ⟨(some 9), none, .act, .mv (.tmp 3)⟩,
     ⟨(some 10), none, .act, .mv (.tmp 0)⟩,
     ⟨(some 11), none, .act, .call 12 [(.tmp 10)]⟩,
     ⟨(some 12), none, .act, .buildSl 8 [(.int .i64 0), (.string ⟨#[]⟩), (.string ⟨#[]⟩), (.int .i64 0), (.int .i64 0), (.int .i64 0), (.string ⟨#[]⟩), (.slice none 0 0)] 1 [(0, (.tmp 11))]⟩,
     ⟨(some 13), none, .act, .append 8 104 [(.int .i64 0), (.string ⟨#[]⟩), (.string ⟨#[]⟩), (.int .i64 0), (.int .i64 0), (.int .i64 0), (.string ⟨#[]⟩), (.slice none 0 0)] (.tmp 9) (.tmp 12)⟩,
     ⟨(some 3), none, .act, .mv (.tmp 13)⟩])))
def r50 : RCode :=
  (.seq (.region [
    ⟨(some 2), none, .act, .mv (.const (.slice none 0 0))⟩])
  (.seq (.region [
    ⟨(some 4), none, .act, .mv (.tmp 0)⟩,
    ⟨(some 5), none, .act, .call 12 [(.tmp 4)]⟩,
    ⟨(some 6), none, .act, .buildSl 8 [(.int .i64 0), (.string ⟨#[]⟩), (.string ⟨#[]⟩), (.int .i64 0), (.int .i64 0), (.int .i64 0), (.string ⟨#[]⟩), (.slice none 0 0)] 1 [(0, (.tmp 5))]⟩,
    ⟨(some 3), none, .act, .mv (.tmp 6)⟩])
  (.seq (.block 0
   (.loop r50l0))
  (.seq (.region [
    ⟨(some 14), none, .act, .mv (.tmp 3)⟩,
    ⟨(some 2), none, .act, .mv (.tmp 14)⟩])
  .ret))))
theorem res50 : ∃ c, Try.f50.body = some c ∧ resCode Try.prog 15 c = some r50 := ⟨_, rfl, by kernel_rfl⟩
theorem rr50 : resRes Try.prog Try.f50.results.toList = some [.tmp 2] := by kernel_rfl
theorem list_loop (hT : TOk T) : ∀ (m : Nat) (st : PS), T.length - st.i < m → st.i ≤ T.length → st.d ≤ 20 → ∃ (l2 : List Pa.Ex) (st2 : PS), Goes T st st2 ∧
    ∀ (p : Nat) (h₀ h : AHeap) (l : List Pa.Ex) (c : Cap) (x0 : ABlk) (k : List RT) (Q : AV → AHeap → Prop), h₀ p = some x0 → OAt h₀ [p] c h → Glob h → h p = some (.box (pst T fin st)) → l.length + (T.length - st.i) ≤ 1000 →
    (∀ h' c', OAt h₀ [p] c' h' → h' p = some (.box (pst T fin st2)) → RRun Try.prog Try.f50 15 k (Env.get [(3, .sl 8 ((l ++ l2).map Pa.Ex.cells) c')]) h' Q) →
    RRun Try.prog Try.f50 15 (.inLoop r50l0 :: .inBlock 0 :: k) (Env.get [(0, ptr p), (3, .sl 8 (l.map Pa.Ex.cells) c)]) h Q := by
  intro m
  induction m with
  | zero => intro st h0; omega
  | succ m ih =>
    intro st hm hi hd
    rcases take_cases (fin := fin) hT.len st [44] with ⟨e, hlt, ct⟩ | ⟨e, ct⟩
    · clear e
      obtain ⟨e, s1, g1, ce⟩ := expr_ex (fin := fin) hT st.next hlt hd
      have hn1 : st.i + 1 ≤ s1.i := g1.1
      have hd1 : s1.d = st.d := g1.2.2
      obtain ⟨l2, s2, g2, H⟩ := ih s1 (by omega) g1.2.1 (by omega)
      refine ⟨e :: l2, s2, (Goes.next hlt).trans (g1.trans g2), ?_⟩
      intro p h₀ h l c x0 k Q hx0 ho hg hp hlen hk
      obtain ⟨op, t, nm, n, vk, vn, vs, ars, rfl⟩ := ex_parts e
      rw [Pa.Ex.cells_mk] at ce
      refine RRun.inLoop ?_
      repeat' (first | refine S.nilK ?_ | (refine S.op rfl ?_; first | (show ROpS _ _ (.call 30 _) _ _ _; refine callPC rfl rfl ct (by repeat' (first | assumption)) (by (repeat' (first | assumption)); first | done | fail) (by repeat' (first | exact rfl)) ?_) | (show ROpS _ _ (.call 12 _) _ _ _; refine callPC rfl rfl ce (by repeat' (first | assumption | refine Glob.setP ?_ (by (repeat' (first | assumption)); first | done | fail))) (by (repeat' (first | exact AHeap.set_same _ _ _)); first | done | fail) (by repeat' (first | exact AHeap.set_set _ _ _ _)) ?_) | refine R.mv rfl ?_ | refine R.buildSl rfl rfl rfl (by decide) ?_) | refine S.seq ?_ | refine S.region ?_ | refine S.condT rfl ?_ | refine RRun.skip ?_ | refine RRun.block ?_)
      refine S.op rfl (S.appendT (ys := [exA op t nm n vk vn vs (exs ars)]) rfl (ho.set hx0 (by simp)).own rfl (.sl _ _) rfl (.sl _ _) ?_ ?_ ?_ (fun c' h' q1 q2 q3 => ?_))
      · intro e he a ha
        simp only [List.mem_singleton] at he
        subst he
        have := Pa.Ex.cells_one (.mk op t nm n ⟨vk, vn, vs⟩ ars) a (by rw [Pa.Ex.cells_mk]; exact ha)
        exact this
      · simp only [List.length_map, List.length_singleton]; omega
      · simp only [List.length_map, List.length_singleton]; omega
      have hp' := q2 p _ (AHeap.set_same _ _ _) (ho.not hx0)
      have ho' := (ho.set (o' := .box (pst T fin s1)) hx0 (by simp)).grow (by intro x hx; simp only [List.mem_singleton] at hx; subst hx; rw [AHeap.set_same]; simp) q1 q2 q3
      have hg' : Glob h' := (Glob.setP hg hp).keep (grow_keep (ho.set hx0 (by simp)).own q2)
      repeat' (first | refine S.nilK ?_ | (refine S.op rfl ?_; first | refine R.mv rfl ?_) | refine RRun.inBlock ?_)
      refine S.keep (l' := [(0, ptr p), (3, .sl 8 (l.map Pa.Ex.cells ++ [exA op t nm n vk vn vs (exs ars)]) c')]) [0, 3] rfl ?_
      have := H p h₀ h' (l ++ [.mk op t nm n ⟨vk, vn, vs⟩ ars]) c' x0 k Q hx0 ho' hg' hp' (by simp only [List.length_append, List.length_singleton]; omega) (fun h2 c2 a1 a2 => by
        have := hk h2 c2 a1 a2
        simpa using this)
      simpa [Pa.Ex.cells_mk] using this
    · clear e
      refine ⟨[], st, Goes.refl hi, ?_⟩
      intro p h₀ h l c x0 k Q hx0 ho hg hp hlen hk
      refine RRun.inLoop ?_
      repeat' (first | refine S.nilK ?_ | (refine S.op rfl ?_; first | (show ROpS _ _ (.call 30 _) _ _ _; refine callPC0 rfl rfl ct (by repeat' (first | assumption)) (by (repeat' (first | assumption)); first | done | fail) ?_) | refine R.mv rfl ?_) | refine S.seq ?_ | refine S.region ?_ | refine S.condF rfl ?_ | refine RRun.exit rfl ?_)
      refine S.keep (l' := [(3, .sl 8 (l.map Pa.Ex.cells) c)]) [3] rfl ?_
      have := hk h c ho hp
      rwa [List.append_nil] at this
theorem list_ex (hT : TOk T) (st : PS) (hi : st.i ≤ T.length) (hd : st.d ≤ 20) : ∃ (l : List Pa.Ex) (st' : PS), Goes T st st' ∧ PC T fin 50 [] st (exs l) st' := by
  obtain ⟨e, s1, g1, ce⟩ := expr_ex (fin := fin) hT st hi hd
  obtain ⟨l2, s2, g2, H⟩ := list_loop (fin := fin) hT (T.length - s1.i + 1) s1 (by omega) g1.2.1 (by have := g1.2.2; omega)
  refine ⟨e :: l2, s2, g1.trans g2, ?_⟩
  intro p h ⟨hg, hp⟩
  obtain ⟨c', hc1, hc2⟩ := res50
  refine ACalls.weak (ACalls.enter Try.func50 hc1 Try.ntmps50 hc2 (Nat.le_of_ble_eq_true rfl) rfl ?_)
  obtain ⟨op, t, nm, n, vk, vn, vs, ars, rfl⟩ := ex_parts e
  rw [Pa.Ex.cells_mk] at ce
  repeat' (first | refine S.nilK ?_ | (refine S.op rfl ?_; first | (show ROpS _ _ (.call 12 _) _ _ _; refine callPC rfl rfl ce (by repeat' (first | assumption)) (by (repeat' (first | assumption)); first | done | fail) (by repeat' (first | exact rfl)) ?_) | refine R.mv rfl ?_ | refine R.buildSl rfl rfl rfl (by decide) ?_) | refine S.seq ?_ | refine S.region ?_ | refine RRun.block ?_)
  refine RRun.loopIn (S.keep (l' := [(0, ptr p), (3, .sl 8 [exA op t nm n vk vn vs (exs ars)] .full)]) [0, 3] rfl ?_)
  have hlt := hT.len
  have e1 : [exA op t nm n vk vn vs (exs ars)] = [Pa.Ex.mk op t nm n ⟨vk, vn, vs⟩ ars].map Pa.Ex.cells := by simp [Pa.Ex.cells_mk]
  rw [e1]
  refine H p (h.set p (.box (pst T fin s1))) (h.set p (.box (pst T fin s1))) [.mk op t nm n ⟨vk, vn, vs⟩ ars] .full _ _ _ (AHeap.set_same _ _ _) (OAt.start _ _) (hg.setP hp) (AHeap.set_same _ _ _) (by simp only [List.length_singleton]; omega) (fun h' c' ho hp' => ?_)
  repeat' (first | refine S.nilK ?_ | (refine S.op rfl ?_; first | refine R.mv rfl ?_) | refine S.seq ?_ | refine S.region ?_)
  apply S.ret rr50
  case hx => repeat (first | exact ResAt.nil | apply ResAt.tmp rfl)
  have hle := ho.le1 hp'
  rw [AHeap.set_set] at hle
  exact ⟨_, _, .toRo _ _ _, hle, rfl, rfl⟩
end
end Go.Proofs.Ytdinnoejipmiiaa

namespace Go.Proofs.Ytdinnoejipmiiaa
open Go.Av
open Go.Av.Pa (PS atP isP wrongP takeP needP kindP nameP opsP operatorP enterP ev exprP expressionP)
section
variable {T : List Tok} {fin : Int}
def r36 : RCode :=
  (.seq (.region [
    ⟨(some 4), none, .act, .mv (.const (.slice none 0 0))⟩])
  (.seq (.seq (.region [
    ⟨(some 5), none, .act, .mv (.tmp 0)⟩,
    ⟨(some 6), none, .act, .mv (.tmp 1)⟩,
    ⟨(some 7), none, .act, .call 30 [(.tmp 5), (.tmp 6)]⟩,
    ⟨(some 8), none, .act, .un .not (.tmp 7)⟩])
  (.cond (.tmp 8)
   (.seq (.region [
     ⟨(some 4), none, .act, .mv (.const (.slice none 0 0))⟩])
   .ret)
   .skip))
  (.seq (.region [
    ⟨(some 9), none, .act, .mv (.tmp 0)⟩,
    ⟨(some 10), none, .act, .call 12 [(.tmp 9)]⟩,
    ⟨(some 11), none, .act, .buildSl 8 [(.int .i64 0), (.string ⟨#[]⟩), (.string ⟨#[]⟩), (.int .i64 0), (.int .i64 0), (.int .i64 0), (.string ⟨#[]⟩), (.slice none 0 0)] 1 [(0, (.tmp 10))]⟩,
    ⟨(some 4), none, .act, .mv (.tmp 11)⟩])
  .ret)))
theorem res36 : ∃ c, Try.f36.body = some c ∧ resCode Try.prog 12 c = some r36 := ⟨_, rfl, by kernel_rfl⟩
theorem rr36 : resRes Try.prog Try.f36.results.toList = some [.tmp 4] := by kernel_rfl
theorem where_ex (hT : TOk T) (st : PS) (hi : st.i ≤ T.length) (hd : st.d ≤ 20) (w : List UInt8) : ∃ (l : List Pa.Ex) (st' : PS), Goes T st st' ∧ PC T fin 36 [str w] st (exs l) st' := by
  rcases take_cases (fin := fin) hT.len st w with ⟨e, hlt, ct⟩ | ⟨e, ct⟩
  · clear e
    obtain ⟨e, s1, g1, ce⟩ := expr_ex (fin := fin) hT st.next hlt hd
    refine ⟨[e], s1, (Goes.next hlt).trans g1, ?_⟩
    intro p h ⟨hg, hp⟩
    obtain ⟨c', hc1, hc2⟩ := res36
    refine ACalls.weak (ACalls.enter Try.func36 hc1 Try.ntmps36 hc2 (Nat.le_of_ble_eq_true rfl) rfl ?_)
    obtain ⟨op, t, nm, n, vk, vn, vs, ars, rfl⟩ := ex_parts e
    rw [Pa.Ex.cells_mk] at ce
    repeat' (first | refine S.nilK ?_ | (refine S.op rfl ?_; first | (show ROpS _ _ (.call 30 _) _ _ _; refine callPC rfl rfl ct (by repeat' (first | assumption)) (by (repeat' (first | assumption)); first | done | fail) (by repeat' (first | exact rfl)) ?_) | (show ROpS _ _ (.call 12 _) _ _ _; refine callPC rfl rfl ce (by repeat' (first | assumption | refine Glob.setP ?_ (by (repeat' (first | assumption)); first | done | fail))) (by (repeat' (first | exact AHeap.set_same _ _ _)); first | done | fail) (by repeat' (first | exact AHeap.set_set _ _ _ _)) ?_) | refine R.mv rfl ?_ | refine R.not rfl ?_ | refine R.buildSl rfl rfl rfl (by decide) ?_) | refine S.seq ?_ | refine S.region ?_ | refine S.condF rfl ?_ | refine RRun.skip ?_)
    apply S.ret rr36
    case hx => repeat (first | exact ResAt.nil | apply ResAt.tmp rfl)
    exact ⟨_, h.set p (.box (pst T fin s1)), exs1_le (exA_ex (.refl _)), (by repeat (first | exact AHeap.le.refl _)), rfl, rfl⟩
  · clear e
    refine ⟨[], st, Goes.refl hi, ?_⟩
    intro p h ⟨hg, hp⟩
    obtain ⟨c', hc1, hc2⟩ := res36
    refine ACalls.weak (ACalls.enter Try.func36 hc1 Try.ntmps36 hc2 (Nat.le_of_ble_eq_true rfl) rfl ?_)
    repeat' (first | refine S.nilK ?_ | (refine S.op rfl ?_; first | (show ROpS _ _ (.call 30 _) _ _ _; refine callPC0 rfl rfl ct (by repeat' (first | assumption)) (by (repeat' (first | assumption)); first | done | fail) ?_) | refine R.mv rfl ?_ | refine R.not rfl ?_) | refine S.seq ?_ | refine S.region ?_ | refine S.condT rfl ?_)
    apply S.ret rr36
    case hx => repeat (first | exact ResAt.nil | apply ResAt.tmp rfl)
    exact ⟨_, h, nil_le, (by repeat (first | exact AHeap.le.refl _)), rfl, (AHeap.set_eq _ hp).symm⟩
def r38 : RCode :=
  (.seq (.region [
    ⟨(some 2), none, .act, .mv (.const (.int .i64 0))⟩])
  (.seq (.block 0
   (.seq (.region [
     ⟨(some 4), none, .act, .mv (.tmp 0)⟩,
     ⟨(some 5), none, .act, .call 30 [(.tmp 4), (.const (.string ⟨#[114, 101, 97, 100]⟩))]⟩,
     ⟨(some 3), none, .act, .mv (.tmp 5)⟩])
   (.cond (.tmp 3)
    (.seq (.seq (.region [
      ⟨(some 6), none, .act, .mv (.tmp 0)⟩,
      ⟨(some 7), none, .act, .call 30 [(.tmp 6), (.const (.string ⟨#[97, 116, 111, 109, 105, 99]⟩))]⟩])
    (.cond (.tmp 7)
     (.seq (.region [
       ⟨(some 2), none, .act, .mv (.const (.int .i64 2))⟩])
     .ret)
     .skip))
    (.seq (.region [
      ⟨(some 8), none, .act, .mv (.tmp 0)⟩,
      ⟨(some 9), none, .act, .buildSl 1 [(.string ⟨#[]⟩)] 1 [(0, (.const (.string ⟨#[99, 111, 109, 109, 105, 116, 116, 101, 100]⟩)))]⟩,
      ⟨(some 10), none, .act, .call 34 [(.tmp 8), (.tmp 9)]⟩])
    (.seq (.region [
      ⟨(some 2), none, .act, .mv (.const (.int .i64 1))⟩])
    .ret)))
    (.seq (.region [
      ⟨(some 12), none, .act, .mv (.tmp 0)⟩,
      ⟨(some 13), none, .act, .call 30 [(.tmp 12), (.const (.string ⟨#[115, 110, 97, 112, 115, 104, 111, 116]⟩))]⟩,
      ⟨(some 11), none, .act, .mv (.tmp 13)⟩])
    (.cond (.tmp 11)
     (.seq (.region [
       ⟨(some 2), none, .act, .mv (.const (.int .i64 3))⟩])
     .ret)
     .skip)))))
  (.seq (.region [
    ⟨(some 14), none, .act, .mv (.tmp 0)⟩,
    ⟨(some 15), none, .act, .call 30 [(.tmp 14), (.const (.string ⟨#[115, 101, 114, 105, 97, 108, 105, 122, 97, 98, 108, 101]⟩))]⟩])
  (.seq (.region [
    ⟨(some 2), none, .act, .mv (.const (.int .i64 4))⟩])
  .ret))))
theorem res38 : ∃ c, Try.f38.body = some c ∧ resCode Try.prog 16 c = some r38 := ⟨_, rfl, by kernel_rfl⟩
theorem rr38 : resRes Try.prog Try.f38.results.toList = some [.tmp 2] := by kernel_rfl
theorem level_ex (hT : TOk T) (st : PS) (hi : st.i ≤ T.length) : ∃ (n : Int) (st' : PS), Goes T st st' ∧ PC T fin 38 [] st (i64 n) st' := by
  rcases take_cases (fin := fin) hT.len st [114, 101, 97, 100] with ⟨e, hlt, c1⟩ | ⟨e, c1⟩
  · clear e
    rcases take_cases (fin := fin) hT.len st.next [97, 116, 111, 109, 105, 99] with ⟨e, hlt2, c2⟩ | ⟨e, c2⟩
    · clear e
      refine ⟨2, st.next.next, (Goes.next hlt).trans (Goes.next hlt2), ?_⟩
      intro p h ⟨hg, hp⟩
      obtain ⟨c', hc1, hc2⟩ := res38
      refine ACalls.weak (ACalls.enter Try.func38 hc1 Try.ntmps38 hc2 (Nat.le_of_ble_eq_true rfl) rfl ?_)
      repeat' (first | refine S.nilK ?_ | (refine S.op rfl ?_; first | (show ROpS _ _ (.call 30 [_, (.const (.string ⟨#[114, 101, 97, 100]⟩))]) _ _ _; refine callPC rfl rfl c1 (by repeat' (first | assumption)) (by (repeat' (first | assumption)); first | done | fail) (by repeat' (first | exact rfl)) ?_) | (show ROpS _ _ (.call 30 _) _ _ _; refine callPC rfl rfl c2 (by repeat' (first | assumption | refine Glob.setP ?_ (by (repeat' (first | assumption)); first | done | fail))) (by (repeat' (first | exact AHeap.set_same _ _ _)); first | done | fail) (by repeat' (first | exact AHeap.set_set _ _ _ _)) ?_) | refine R.mv rfl ?_) | refine S.seq ?_ | refine S.region ?_ | refine S.condT rfl ?_ | refine RRun.block ?_)
      apply S.ret rr38
      case hx => repeat (first | exact ResAt.nil | apply ResAt.tmp rfl)
      exact ⟨_, h.set p (.box (pst T fin st.next.next)), .refl _, (by repeat (first | exact AHeap.le.refl _)), rfl, rfl⟩
    · clear e
      have cd := need_spec (T := T) (fin := fin) hT.len [[99, 111, 109, 109, 105, 116, 116, 101, 100]] (by decide) .full st.next
      have g := goes_need (fin := fin) (st := st.next) hlt [[99, 111, 109, 109, 105, 116, 116, 101, 100]]
      generalize needP T fin st.next [[99, 111, 109, 109, 105, 116, 116, 101, 100]] = s2 at *
      refine ⟨1, s2, (Goes.next hlt).trans g, ?_⟩
      intro p h ⟨hg, hp⟩
      obtain ⟨c', hc1, hc2⟩ := res38
      refine ACalls.weak (ACalls.enter Try.func38 hc1 Try.ntmps38 hc2 (Nat.le_of_ble_eq_true rfl) rfl ?_)
      repeat' (first | refine S.nilK ?_ | (refine S.op rfl ?_; first | (show ROpS _ _ (.call 30 [_, (.const (.string ⟨#[114, 101, 97, 100]⟩))]) _ _ _; refine callPC rfl rfl c1 (by repeat' (first | assumption)) (by (repeat' (first | assumption)); first | done | fail) (by repeat' (first | exact rfl)) ?_) | (show ROpS _ _ (.call 30 _) _ _ _; refine callPC0 rfl rfl c2 (by repeat' (first | assumption | refine Glob.setP ?_ (by (repeat' (first | assumption)); first | done | fail))) (by (repeat' (first | exact AHeap.set_same _ _ _)); first | done | fail) ?_) | (show ROpS _ _ (.call 34 _) _ _ _; refine callPCU rfl rfl cd (by repeat' (first | assumption | refine Glob.setP ?_ (by (repeat' (first | assumption)); first | done | fail))) (by (repeat' (first | exact AHeap.set_same _ _ _)); first | done | fail) (by repeat' (first | exact AHeap.set_set _ _ _ _)) (fun x => ?_)) | refine R.mv rfl ?_ | refine R.buildSl rfl rfl rfl (by decide) ?_) | refine S.seq ?_ | refine S.region ?_ | refine S.condT rfl ?_ | refine S.condF rfl ?_ | refine RRun.skip ?_ | refine RRun.block ?_)
      apply S.ret rr38
      case hx => repeat (first | exact ResAt.nil | apply ResAt.tmp rfl)
      exact ⟨_, h.set p (.box (pst T fin s2)), .refl _, (by repeat (first | exact AHeap.le.refl _)), rfl, rfl⟩
  · clear e
    rcases take_cases (fin := fin) hT.len st [115, 110, 97, 112, 115, 104, 111, 116] with ⟨e, hlt, c2⟩ | ⟨e, c2⟩
    · clear e
      refine ⟨3, st.next, Goes.next hlt, ?_⟩
      intro p h ⟨hg, hp⟩
      obtain ⟨c', hc1, hc2⟩ := res38
      refine ACalls.weak (ACalls.enter Try.func38 hc1 Try.ntmps38 hc2 (Nat.le_of_ble_eq_true rfl) rfl ?_)
      repeat' (first | refine S.nilK ?_ | (refine S.op rfl ?_; first | (show ROpS _ _ (.call 30 [_, (.const (.string ⟨#[114, 101, 97, 100]⟩))]) _ _ _; refine callPC0 rfl rfl c1 (by repeat' (first | assumption)) (by (repeat' (first | assumption)); first | done | fail) ?_) | (show ROpS _ _ (.call 30 _) _ _ _; refine callPC rfl rfl c2 (by repeat' (first | assumption)) (by (repeat' (first | assumption)); first | done | fail) (by repeat' (first | exact rfl)) ?_) | refine R.mv rfl ?_) | refine S.seq ?_ | refine S.region ?_ | refine S.condT rfl ?_ | refine S.condF rfl ?_ | refine RRun.block ?_)
      apply S.ret rr38
      case hx => repeat (first | exact ResAt.nil | apply ResAt.tmp rfl)
      exact ⟨_, h.set p (.box (pst T fin st.next)), .refl _, (by repeat (first | exact AHeap.le.refl _)), rfl, rfl⟩
    · clear e
      have c3 := take_spec (fin := fin) hT.len st [115, 101, 114, 105, 97, 108, 105, 122, 97, 98, 108, 101]
      have g := Pa.take_up (l := T) st [115, 101, 114, 105, 97, 108, 105, 122, 97, 98, 108, 101] hi
      have g2 := Pa.take_flat (l := T) st [115, 101, 114, 105, 97, 108, 105, 122, 97, 98, 108, 101]
      generalize takeP T st [115, 101, 114, 105, 97, 108, 105, 122, 97, 98, 108, 101] = r at *
      generalize isP T st [115, 101, 114, 105, 97, 108, 105, 122, 97, 98, 108, 101] = q at *
      obtain ⟨b, s2⟩ := r
      refine ⟨4, s2, ⟨g.1, g.2, g2⟩, ?_⟩
      intro p h ⟨hg, hp⟩
      obtain ⟨c', hc1, hc2⟩ := res38
      refine ACalls.weak (ACalls.enter Try.func38 hc1 Try.ntmps38 hc2 (Nat.le_of_ble_eq_true rfl) rfl ?_)
      repeat' (first | refine S.nilK ?_ | (refine S.op rfl ?_; first | (show ROpS _ _ (.call 30 [_, (.const (.string ⟨#[114, 101, 97, 100]⟩))]) _ _ _; refine callPC0 rfl rfl c1 (by repeat' (first | assumption)) (by (repeat' (first | assumption)); first | done | fail) ?_) | (show ROpS _ _ (.call 30 [_, (.const (.string ⟨#[115, 110, 97, 112, 115, 104, 111, 116]⟩))]) _ _ _; refine callPC0 rfl rfl c2 (by repeat' (first | assumption)) (by (repeat' (first | assumption)); first | done | fail) ?_) | (show ROpS _ _ (.call 30 _) _ _ _; refine callPC rfl rfl c3 (by repeat' (first | assumption)) (by (repeat' (first | assumption)); first | done | fail) (by repeat' (first | exact rfl)) ?_) | refine R.mv rfl ?_) | refine S.seq ?_ | refine S.region ?_ | refine S.condF rfl ?_ | refine RRun.skip ?_ | refine RRun.block ?_ | refine RRun.inBlock ?_)
      apply S.ret rr38
      case hx => repeat (first | exact ResAt.nil | apply ResAt.tmp rfl)
      exact ⟨_, h.set p (.box (pst T fin s2)), .refl _, (by repeat (first | exact AHeap.le.refl _)), rfl, rfl⟩
def byA (x : Int × Bool) : List AV := [i64 x.1, bl x.2]
def bysA (l : List (Int × Bool)) (c : Cap) : AV := .sl 2 (l.map byA) c
theorem take_any (hT : TOk T) (st : PS) (hi : st.i ≤ T.length) (s : List UInt8) : ∃ (b : Bool) (st' : PS), Goes T st st' ∧ (b = true → st.i + 1 ≤ st'.i) ∧ PC T fin 30 [str s] st (bl b) st' := by
  rcases take_cases (fin := fin) hT.len st s with ⟨e, hlt, ct⟩ | ⟨e, ct⟩
  · exact ⟨true, st.next, Goes.next hlt, fun _ => Nat.le_refl _, ct⟩
  · refine ⟨false, st, Goes.refl hi, fun h => (by cases h), ?_⟩
    have := take_spec (fin := fin) hT.len st s
    have hq : isP T st s = false := by
      unfold takeP at e
      split at e
      · cases e
      · next h => simpa using h
    rw [e, hq] at this
    exact this
def r52l0 : RCode :=
  (.block 1
   (.seq (.region [
     ⟨(some 5), none, .act, .mv (.tmp 0)⟩,
     ⟨(some 6), none, .act, .call 53 [(.tmp 5)]⟩,
     ⟨(some 7), none, .act, .build [(.int .i64 0), (.bool false)] [(0, 1, (.tmp 6))]⟩,
     ⟨(some 4), none, .act, .alloc [(.int .i64 0), (.bool false)]⟩,
     ⟨none, none, .act, .store 2 (.tmp 4) (.tmp 7)⟩])
   (.seq (.region [
     ⟨(some 8), none, .act, .mv (.tmp 0)⟩,
     ⟨(some 9), none, .act, .call 30 [(.tmp 8), (.const (.string ⟨#[100, 101, 115, 99]⟩))]⟩,
     ⟨(some 10), none, .act, .fieldAddr 1 (.tmp 4)⟩,
     ⟨none, none, .act, .store 1 (.tmp 10) (.tmp 9)⟩])
   (.seq (.region [
     ⟨(some 11), none, .act, .mv (.tmp 3)⟩,
     ⟨(some 12), none, .act, .load true 2 (.tmp 4)⟩,
     ⟨(some 13), none, .act, .buildSl 2 [(.int .i64 0), (.bool false)] 1 [(0, (.tmp 12))]⟩,
     ⟨(some 14), none, .act, .append 2 16 [(.int .i64 0), (.bool false)] (.tmp 11) (.tmp 13)⟩,
     ⟨(some 3), none, .act, .mv (.tmp 14)⟩])
   (.seq (.region [
     ⟨(some 15), none, .act, .mv (.tmp 0)⟩,
     ⟨(some 16), none, .act, .call 30 [(.tmp 15), (.const (.string ⟨#[44]⟩))]⟩,
     ⟨(some 17), none, .act, .un .not (.tmp 16)⟩])
   (.cond (.tmp 17)
    (.exit 0)
    .skip))))))
def r52 : RCode :=
  (.seq (.region [
    ⟨(some 2), none, .act, .mv (.const (.slice none 0 0))⟩])
  (.seq (.region [
    ⟨(some 3), none, .act, .mv (.const (.slice none 0 0))⟩])
  (.seq .skip
  (.seq (.block 0
   (.loop r52l0))
  (.seq (.region [
    ⟨(some 18), none, .act, .mv (.tmp 3)⟩,
    ⟨(some 2), none, .act, .mv (.tmp 18)⟩])
  .ret)))))
theorem res52 : ∃ c, Try.f52.body = some c ∧ resCode Try.prog 19 c = some r52 := ⟨_, rfl, by kernel_rfl⟩
theorem rr52 : resRes Try.prog Try.f52.results.toList = some [.tmp 2] := by kernel_rfl
theorem order_round (n : Int) (d q : Bool) (st s1 s2 s3 : PS) (cn : PC T fin 53 [] st (i64 n) s1) (cd : PC T fin 30 [str [100, 101, 115, 99]] s1 (bl d) s2) (cq : PC T fin 30 [str [44]] s2 (bl q) s3)
    (p : Nat) (h₀ h : AHeap) (l : List (Int × Bool)) (c : Cap) (x0 : ABlk) (k : List RT) (Q : AV → AHeap → Prop) (hx0 : h₀ p = some x0) (ho : OAt h₀ [p] c h) (hg : Glob h) (hp : h p = some (.box (pst T fin st))) (hlen : l.length ≤ 1000)
    (hk : ∀ h' c', OAt h₀ [p] c' h' → Glob h' → h' p = some (.box (pst T fin s3)) → RRun Try.prog Try.f52 19 (if q then .inLoop r52l0 :: .inBlock 0 :: k else k) (Env.get [(0, ptr p), (3, bysA (l ++ [(n, d)]) c')]) h' Q) :
    RRun Try.prog Try.f52 19 (.inLoop r52l0 :: .inBlock 0 :: k) (Env.get [(0, ptr p), (3, bysA l c)]) h Q := by
  refine RRun.inLoop ?_
  unfold bysA at *
  repeat' (first | refine S.nilK ?_ | (refine S.op rfl ?_; first | (show ROpS _ _ (.call 53 _) _ _ _; refine callPC rfl rfl cn (by repeat' (first | assumption)) (by (repeat' (first | assumption)); first | done | fail) (by repeat' (first | exact rfl)) ?_) | (show ROpS _ _ (.call 30 [_, (.const (.string ⟨#[100, 101, 115, 99]⟩))]) _ _ _; refine callPC rfl rfl cd (by repeat' (first | assumption | refine Glob.setF ?_ (by (repeat' (first | assumption)); first | done | fail) | refine Glob.setP ?_ (by (repeat' (first | assumption)); first | done | fail))) (by (repeat' (first | exact AHeap.set_same _ _ _ | refine AHeap.get_fresh ‹_› ?_)); first | done | fail) (by repeat' (first | exact AHeap.set_set _ _ _ _ | (apply AHeap.upd1; · exact (by first | exact AHeap.n1 ‹_›)))) ?_) | refine R.mv rfl ?_ | refine R.fieldAddr rfl ?_ | refine R.load (by decide) rfl (by (repeat' (first | exact AHeap.set_same _ _ _)); first | done | fail) rfl ?_ | refine R.alloc rfl (fun b hb => ?_) | refine R.build rfl rfl ?_ | refine R.buildSl rfl rfl rfl (by decide) ?_) | (refine S.op0 rfl ?_; first | refine S.storeN rfl rfl (by (repeat' (first | exact AHeap.set_same _ _ _)); first | done | fail) rfl rfl rfl (by rfl) rfl (by repeat' (first | exact AHeap.set_set _ _ _ _)) ?_) | refine S.seq ?_ | refine S.region ?_ | refine RRun.block ?_)
  refine S.op rfl (S.appO (h₀ := h₀) (ps := [p]) (ys := [[i64 n, bl d]]) rfl (by repeat' (first | assumption | refine OAt.set ?_ (by assumption) (by simp) | refine OAt.loc ?_ (by (repeat' (first | exact AHeap.z1 ‹_› | refine AHeap.so ?_ ?_ | exact AHeap.n1 ‹_›)); first | done | fail))) ?_ rfl rfl (.sl _ _) ?_ ?_ ?_ (fun c' h' ho' hk' hk2 => ?_))
  · intro x hx
    simp only [List.mem_singleton] at hx
    subst hx
    have e : ((h.set x (.box (pst T fin s2))).set b (.box [i64 n, bl d])) x = some (.box (pst T fin s2)) := (by (repeat' (first | exact AHeap.set_same _ _ _ | refine AHeap.so ?_ ?_ | exact AHeap.n2 ‹_›)); first | done | fail)
    intro e0
    exact Option.some_ne_none _ (e.symm.trans e0)
  · intro e he a ha
    simp only [List.mem_singleton] at he
    subst he
    simp only [List.mem_cons, List.not_mem_nil, or_false] at ha
    rcases ha with rfl | rfl <;> rfl
  · simp only [List.length_map, List.length_singleton]; omega
  · simp only [List.length_map, List.length_singleton]; omega
  have hp' := hk' p _ (by (repeat' (first | exact AHeap.set_same _ _ _ | refine AHeap.so ?_ ?_ | exact AHeap.n2 ‹_›)); first | done | fail)
  have hg' : Glob h' := Glob.kept (h := (h.set p (.box (pst T fin s2))).set b (.box [i64 n, bl d])) (by repeat' (first | assumption | refine Glob.setF ?_ (by (repeat' (first | exact AHeap.z1 ‹_› | refine AHeap.so ?_ ?_ | exact AHeap.n1 ‹_›)); first | done | fail) | refine Glob.setP ?_ (by (repeat' (first | assumption)); first | done | fail))) hk2
  have fin1 := fun h2 => hk h2 c'
  cases q with
  | true =>
    repeat' (first | refine S.nilK ?_ | (refine S.op rfl ?_; first | (show ROpS _ _ (.call 30 _) _ _ _; refine callPC rfl rfl cq (by repeat' (first | assumption)) (by (repeat' (first | assumption)); first | done | fail) (by repeat' (first | exact rfl)) ?_) | refine R.mv rfl ?_ | refine R.not rfl ?_) | refine S.seq ?_ | refine S.region ?_ | refine S.condF rfl ?_ | refine RRun.skip ?_ | refine RRun.inBlock ?_)
    refine S.keep (l' := [(0, ptr p), (3, .sl 2 (l.map byA ++ [[i64 n, bl d]]) c')]) [0, 3] rfl ?_
    have := fin1 _ (ho'.set (o' := .box (pst T fin s3)) hx0 (by simp)) (hg'.setP hp') (AHeap.set_same _ _ _)
    simpa [byA] using this
  | false =>
    repeat' (first | refine S.nilK ?_ | (refine S.op rfl ?_; first | (show ROpS _ _ (.call 30 _) _ _ _; refine callPC rfl rfl cq (by repeat' (first | assumption)) (by (repeat' (first | assumption)); first | done | fail) (by repeat' (first | exact rfl)) ?_) | refine R.mv rfl ?_ | refine R.not rfl ?_) | refine S.seq ?_ | refine S.region ?_ | refine S.condT rfl ?_ | refine RRun.exit rfl ?_)
    refine S.keep (l' := [(0, ptr p), (3, .sl 2 (l.map byA ++ [[i64 n, bl d]]) c')]) [0, 3] rfl ?_
    have := fin1 _ (ho'.set (o' := .box (pst T fin s3)) hx0 (by simp)) (hg'.setP hp') (AHeap.set_same _ _ _)
    simpa [byA] using this
theorem order_loop (hT : TOk T) : ∀ (m : Nat) (st : PS), T.length - st.i < m → st.i ≤ T.length → ∃ (l2 : List (Int × Bool)) (st2 : PS), Goes T st st2 ∧
    ∀ (p : Nat) (h₀ h : AHeap) (l : List (Int × Bool)) (c : Cap) (x0 : ABlk) (k : List RT) (Q : AV → AHeap → Prop), h₀ p = some x0 → OAt h₀ [p] c h → Glob h → h p = some (.box (pst T fin st)) → l.length + (T.length - st.i) ≤ 1000 →
    (∀ h' c', OAt h₀ [p] c' h' → h' p = some (.box (pst T fin st2)) → RRun Try.prog Try.f52 19 k (Env.get [(0, ptr p), (3, bysA (l ++ l2) c')]) h' Q) →
    RRun Try.prog Try.f52 19 (.inLoop r52l0 :: .inBlock 0 :: k) (Env.get [(0, ptr p), (3, bysA l c)]) h Q := by
  intro m
  induction m with
  | zero => intro st h0; omega
  | succ m ih =>
    intro st hm hi
    have cn := pnumber_spec (fin := fin) hT st
    have g1 := goes_num (fin := fin) (st := st) hi
    generalize numP T fin st = r at cn g1
    obtain ⟨n, s1⟩ := r
    simp only at cn g1
    obtain ⟨d, s2, g2, _, cd⟩ := take_any (fin := fin) hT s1 g1.2.1 [100, 101, 115, 99]
    obtain ⟨q, s3, g3, hq, cq⟩ := take_any (fin := fin) hT s2 g2.2.1 [44]
    have gg := g1.trans (g2.trans g3)
    cases q with
    | true =>
      have h1 := hq rfl
      have h2 := (g1.trans g2).1
      have h3 := g3.2.1
      obtain ⟨l2, s4, g4, H⟩ := ih s3 (by omega) g3.2.1
      refine ⟨(n, d) :: l2, s4, gg.trans g4, ?_⟩
      intro p h₀ h l c x0 k Q hx0 ho hg hp hlen hk
      refine order_round n d true st s1 s2 s3 cn cd cq p h₀ h l c x0 k Q hx0 ho hg hp (by omega) (fun h' c' a1 a2 a3 => ?_)
      rw [if_pos rfl]
      refine H p h₀ h' (l ++ [(n, d)]) c' x0 k Q hx0 a1 a2 a3 (by simp only [List.length_append, List.length_singleton]; omega) (fun h2 c2 b1 b2 => ?_)
      have := hk h2 c2 b1 b2
      simpa using this
    | false =>
      refine ⟨[(n, d)], s3, gg, ?_⟩
      intro p h₀ h l c x0 k Q hx0 ho hg hp hlen hk
      refine order_round n d false st s1 s2 s3 cn cd cq p h₀ h l c x0 k Q hx0 ho hg hp (by omega) (fun h' c' a1 a2 a3 => ?_)
      rw [if_neg (by decide)]
      exact hk h' c' a1 a3
theorem order_ex (hT : TOk T) (st : PS) (hi : st.i ≤ T.length) : ∃ (l : List (Int × Bool)) (st' : PS), Goes T st st' ∧ PC T fin 52 [] st (bysA l .ro) st' := by
  obtain ⟨l2, s2, g2, H⟩ := order_loop (fin := fin) hT (T.length - st.i + 1) st (by omega) hi
  refine ⟨l2, s2, g2, ?_⟩
  intro p h ⟨hg, hp⟩
  obtain ⟨c', hc1, hc2⟩ := res52
  refine ACalls.weak (ACalls.enter Try.func52 hc1 Try.ntmps52 hc2 (Nat.le_of_ble_eq_true rfl) rfl ?_)
  repeat' (first | refine S.nilK ?_ | (refine S.op rfl ?_; first | refine R.mv rfl ?_) | refine S.seq ?_ | refine S.region ?_ | refine RRun.skip ?_ | refine RRun.block ?_)
  refine RRun.loopIn (S.keep (l' := [(0, ptr p), (3, .v (.slice none 0 0))]) [0, 3] rfl (RRun.envs (.cons 0 (.refl _) (.cons 3 (.nilSl 2 (c := .full) trivial) .nil)) ?_))
  have hlt := hT.len
  refine H p h h [] .full _ _ _ hp (OAt.start _ _) hg hp (by simp only [List.length_nil]; omega) (fun h' c' ho hp' => ?_)
  unfold bysA
  repeat' (first | refine S.nilK ?_ | (refine S.op rfl ?_; first | refine R.mv rfl ?_) | refine S.seq ?_ | refine S.region ?_)
  apply S.ret rr52
  case hx => repeat (first | exact ResAt.nil | apply ResAt.tmp rfl)
  exact ⟨_, _, .toRo _ _ _, ho.le1 hp', rfl, rfl⟩
end
end Go.Proofs.Ytdinnoejipmiiaa

namespace Go.Proofs.Ytdinnoejipmiiaa
open Go.Av
open Go.Av.Pa (PS atP isP wrongP takeP needP kindP nameP opsP operatorP enterP ev exprP expressionP)
abbrev nilA : AV := .v (.slice none 0 0)
def crA (tn : List UInt8) (cols : AV) (key : Int) (idx : AV) : List AV :=
  [i64 1, str [], i64 0, str tn, cols, i64 key, idx, nilA, nilA, bl false, nilA, str [], str [], nilA, nilA, nilA, nilA, i64 (-1), bl false, i64 0]
structure Col where
  nm : List UInt8
  kind : Int
  nn : Bool
def colA (x : Col) : List AV := [str x.nm, i64 x.kind, bl x.nn]
def colsA (l : List Col) (c : Cap) : AV := .sl 3 (l.map colA) c
abbrev SRes (T : List Tok) (fin : Int) (p q : Nat) (h₀ : AHeap) (st' : PS) (A' : Cap → List AV) : AV → AHeap → Prop := fun _ h' => ∃ c', OAt h₀ [p, q] c' h' ∧ Glob h' ∧ h' p = some (.box (pst T fin st')) ∧ h' q = some (.box (A' c'))
structure SAt (T : List Tok) (fin : Int) (p q : Nat) (h₀ : AHeap) (st : PS) (c : Cap) (A : List AV) (h : AHeap) : Prop where
  ne : p ≠ q
  p0 : ∃ x, h₀ p = some x
  q0 : ∃ x, h₀ q = some x
  own : OAt h₀ [p, q] c h
  glob : Glob h
  p : h p = some (.box (pst T fin st))
  q : h q = some (.box A)
def SC (T : List Tok) (fin : Int) (f : FuncId) (off : Nat) (A : Cap → List AV) (st : PS) (A' : Cap → List AV) (st' : PS) : Prop :=
  ∀ (p q : Nat) (h₀ h : AHeap) (c : Cap), SAt T fin p q h₀ st c (A c) h → ACalls Try.prog f [ptr p, ptrAt q off] h (SRes T fin p q h₀ st' A')
section
variable {T : List Tok} {fin : Int}
theorem ps_some {p q : Nat} {h : AHeap} {o o' : ABlk} (hp : h p = some o) (hq : h q = some o') : ∀ x ∈ [p, q], h x ≠ none := by
  intro x hx
  simp only [List.mem_cons, List.not_mem_nil, or_false] at hx
  rcases hx with rfl | rfl
  · rw [hp]; simp
  · rw [hq]; simp
def r48 : RCode :=
  (.seq (.region [
    ⟨(some 6), none, .act, .mv (.tmp 0)⟩,
    ⟨(some 7), none, .act, .call 35 [(.tmp 6)]⟩,
    ⟨(some 8), none, .act, .build [(.string ⟨#[]⟩), (.int .i64 0), (.bool false)] [(0, 1, (.tmp 7)), (1, 1, (.const (.int .i64 1)))]⟩,
    ⟨(some 4), none, .act, .alloc [(.string ⟨#[]⟩), (.int .i64 0), (.bool false)]⟩,
    ⟨none, none, .act, .store 3 (.tmp 4) (.tmp 8)⟩])
  (.seq (.seq (.region [
    ⟨(some 9), none, .act, .mv (.tmp 0)⟩,
    ⟨(some 10), none, .act, .call 30 [(.tmp 9), (.const (.string ⟨#[105, 110, 116]⟩))]⟩,
    ⟨(some 11), none, .act, .un .not (.tmp 10)⟩])
  (.cond (.tmp 11)
   (.seq (.region [
     ⟨(some 12), none, .act, .mv (.tmp 0)⟩,
     ⟨(some 13), none, .act, .buildSl 1 [(.string ⟨#[]⟩)] 1 [(0, (.const (.string ⟨#[116, 101, 120, 116]⟩)))]⟩,
     ⟨(some 14), none, .act, .call 34 [(.tmp 12), (.tmp 13)]⟩])
   (.region [
     ⟨(some 15), none, .act, .fieldAddr 1 (.tmp 4)⟩,
     ⟨none, none, .act, .store 1 (.tmp 15) (.const (.int .i64 2))⟩]))
   .skip))
  (.seq (.seq (.region [
    ⟨(some 16), none, .act, .mv (.tmp 0)⟩,
    ⟨(some 17), none, .act, .call 30 [(.tmp 16), (.const (.string ⟨#[110, 111, 116]⟩))]⟩,
    ⟨(some 18), none, .act, .fieldAddr 2 (.tmp 4)⟩,
    ⟨none, none, .act, .store 1 (.tmp 18) (.tmp 17)⟩])
  (.seq (.region [
    ⟨(some 19), none, .act, .fieldAddr 2 (.tmp 4)⟩,
    ⟨(some 20), none, .act, .load false 1 (.tmp 19)⟩])
  (.cond (.tmp 20)
   (.region [
     ⟨(some 21), none, .act, .mv (.tmp 0)⟩,
     ⟨(some 22), none, .act, .buildSl 1 [(.string ⟨#[]⟩)] 1 [(0, (.const (.string ⟨#[110, 117, 108, 108]⟩)))]⟩,
     ⟨(some 23), none, .act, .call 34 [(.tmp 21), (.tmp 22)]⟩])
   .skip)))
  (.seq (.seq (.region [
    ⟨(some 24), none, .act, .mv (.tmp 0)⟩,
    ⟨(some 25), none, .act, .call 21 [(.tmp 24)]⟩,
    ⟨(some 5), none, .act, .mv (.tmp 25)⟩])
  (.seq (.region [
    ⟨(some 26), none, .act, .mv (.tmp 0)⟩,
    ⟨(some 27), none, .act, .call 30 [(.tmp 26), (.const (.string ⟨#[112, 114, 105, 109, 97, 114, 121]⟩))]⟩])
  (.cond (.tmp 27)
   (.seq (.seq (.region [
     ⟨(some 28), none, .act, .mv (.tmp 1)⟩,
     ⟨(some 29), none, .act, .nilCheck (.tmp 28)⟩,
     ⟨(some 30), none, .act, .fieldAddr 3 (.tmp 29)⟩,
     ⟨(some 31), none, .act, .load false 1 (.tmp 30)⟩,
     ⟨(some 32), none, .act, .bin .geq (.tmp 31) (.const (.int .i64 0))⟩])
   (.cond (.tmp 32)
    (.region [
      ⟨(some 33), none, .act, .mv (.tmp 0)⟩,
      ⟨(some 34), none, .act, .mv (.tmp 5)⟩,
      ⟨(some 35), none, .act, .call 20 [(.tmp 33), (.tmp 34), (.const (.int .i64 200))]⟩])
    .skip))
   (.seq (.region [
     ⟨(some 36), none, .act, .mv (.tmp 0)⟩,
     ⟨(some 37), none, .act, .buildSl 1 [(.string ⟨#[]⟩)] 1 [(0, (.const (.string ⟨#[107, 101, 121]⟩)))]⟩,
     ⟨(some 38), none, .act, .call 34 [(.tmp 36), (.tmp 37)]⟩])
   (.region [
     ⟨(some 39), none, .act, .mv (.tmp 1)⟩,
     ⟨(some 40), none, .act, .mv (.tmp 1)⟩,
     ⟨(some 41), none, .act, .nilCheck (.tmp 40)⟩,
     ⟨(some 42), none, .act, .fieldAddr 2 (.tmp 41)⟩,
     ⟨(some 43), none, .act, .load false 1 (.tmp 42)⟩,
     ⟨(some 44), none, .act, .len (.tmp 43)⟩,
     ⟨(some 45), none, .act, .nilCheck (.tmp 39)⟩,
     ⟨(some 46), none, .act, .fieldAddr 3 (.tmp 45)⟩,
     ⟨none, none, .act, .store 1 (.tmp 46) (.tmp 44)⟩])))
   .skip)))
  (.region [
    ⟨(some 47), none, .pure, .mv (.tmp 1)⟩,
    ⟨(some 48), none, .pure, .mv (.tmp 1)⟩,
    ⟨(some 49), none, .pure, .nilCheck (.tmp 48)⟩,
    ⟨(some 50), none, .pure, .fieldAddr 2 (.tmp 49)⟩,
    ⟨(some 51), none, .read, .load false 1 (.tmp 50)⟩,
    ⟨(some 52), none, .read, .load true 3 (.tmp 4)⟩,
    ⟨(some 53), none, .pure, .buildSl 3 [(.string ⟨#[]⟩), (.int .i64 0), (.bool false)] 1 [(0, (.tmp 52))]⟩,
    ⟨(some 54), none, .act, .append 3 32 [(.string ⟨#[]⟩), (.int .i64 0), (.bool false)] (.tmp 51) (.tmp 53)⟩,
    ⟨(some 55), none, .pure, .nilCheck (.tmp 47)⟩,
    ⟨(some 56), none, .pure, .fieldAddr 2 (.tmp 55)⟩,
    ⟨none, none, .act, .store 1 (.tmp 56) (.tmp 54)⟩])))))
theorem res48 : ∃ c, Try.f48.body = some c ∧ resCode Try.prog 57 c = some r48 := ⟨_, rfl, by kernel_rfl⟩
theorem rr48 : resRes Try.prog Try.f48.results.toList = some [] := by kernel_rfl
def r48p : RCode :=
  (.seq (.seq (.region [
    ⟨(some 24), none, .act, .mv (.tmp 0)⟩,
    ⟨(some 25), none, .act, .call 21 [(.tmp 24)]⟩,
    ⟨(some 5), none, .act, .mv (.tmp 25)⟩])
  (.seq (.region [
    ⟨(some 26), none, .act, .mv (.tmp 0)⟩,
    ⟨(some 27), none, .act, .call 30 [(.tmp 26), (.const (.string ⟨#[112, 114, 105, 109, 97, 114, 121]⟩))]⟩])
  (.cond (.tmp 27)
   (.seq (.seq (.region [
     ⟨(some 28), none, .act, .mv (.tmp 1)⟩,
     ⟨(some 29), none, .act, .nilCheck (.tmp 28)⟩,
     ⟨(some 30), none, .act, .fieldAddr 3 (.tmp 29)⟩,
     ⟨(some 31), none, .act, .load false 1 (.tmp 30)⟩,
     ⟨(some 32), none, .act, .bin .geq (.tmp 31) (.const (.int .i64 0))⟩])
   (.cond (.tmp 32)
    (.region [
      ⟨(some 33), none, .act, .mv (.tmp 0)⟩,
      ⟨(some 34), none, .act, .mv (.tmp 5)⟩,
      ⟨(some 35), none, .act, .call 20 [(.tmp 33), (.tmp 34), (.const (.int .i64 200))]⟩])
    .skip))
   (.seq (.region [
     ⟨(some 36), none, .act, .mv (.tmp 0)⟩,
     ⟨(some 37), none, .act, .buildSl 1 [(.string ⟨#[]⟩)] 1 [(0, (.const (.string ⟨#[107, 101, 121]⟩)))]⟩,
     ⟨(some 38), none, .act, .call 34 [(.tmp 36), (.tmp 37)]⟩])
   (.region [
     ⟨(some 39), none, .act, .mv (.tmp 1)⟩,
     ⟨(some 40), none, .act, .mv (.tmp 1)⟩,
     ⟨(some 41), none, .act, .nilCheck (.tmp 40)⟩,
     ⟨(some 42), none, .act, .fieldAddr 2 (.tmp 41)⟩,
     ⟨(some 43), none, .act, .load false 1 (.tmp 42)⟩,
     ⟨(some 44), none, .act, .len (.tmp 43)⟩,
     ⟨(some 45), none, .act, .nilCheck (.tmp 39)⟩,
     ⟨(some 46), none, .act, .fieldAddr 3 (.tmp 45)⟩,
     ⟨none, none, .act, .store 1 (.tmp 46) (.tmp 44)⟩])))
   .skip)))
  (.region [
    ⟨(some 47), none, .pure, .mv (.tmp 1)⟩,
    ⟨(some 48), none, .pure, .mv (.tmp 1)⟩,
    ⟨(some 49), none, .pure, .nilCheck (.tmp 48)⟩,
    ⟨(some 50), none, .pure, .fieldAddr 2 (.tmp 49)⟩,
    ⟨(some 51), none, .read, .load false 1 (.tmp 50)⟩,
    ⟨(some 52), none, .read, .load true 3 (.tmp 4)⟩,
    ⟨(some 53), none, .pure, .buildSl 3 [(.string ⟨#[]⟩), (.int .i64 0), (.bool false)] 1 [(0, (.tmp 52))]⟩,
    ⟨(some 54), none, .act, .append 3 32 [(.string ⟨#[]⟩), (.int .i64 0), (.bool false)] (.tmp 51) (.tmp 53)⟩,
    ⟨(some 55), none, .pure, .nilCheck (.tmp 47)⟩,
    ⟨(some 56), none, .pure, .fieldAddr 2 (.tmp 55)⟩,
    ⟨none, none, .act, .store 1 (.tmp 56) (.tmp 54)⟩]))
def r48n : RCode :=
  (.seq (.seq (.region [
    ⟨(some 16), none, .act, .mv (.tmp 0)⟩,
    ⟨(some 17), none, .act, .call 30 [(.tmp 16), (.const (.string ⟨#[110, 111, 116]⟩))]⟩,
    ⟨(some 18), none, .act, .fieldAddr 2 (.tmp 4)⟩,
    ⟨none, none, .act, .store 1 (.tmp 18) (.tmp 17)⟩])
  (.seq (.region [
    ⟨(some 19), none, .act, .fieldAddr 2 (.tmp 4)⟩,
    ⟨(some 20), none, .act, .load false 1 (.tmp 19)⟩])
  (.cond (.tmp 20)
   (.region [
     ⟨(some 21), none, .act, .mv (.tmp 0)⟩,
     ⟨(some 22), none, .act, .buildSl 1 [(.string ⟨#[]⟩)] 1 [(0, (.const (.string ⟨#[110, 117, 108, 108]⟩)))]⟩,
     ⟨(some 23), none, .act, .call 34 [(.tmp 21), (.tmp 22)]⟩])
   .skip)))
  (.seq (.seq (.region [
    ⟨(some 24), none, .act, .mv (.tmp 0)⟩,
    ⟨(some 25), none, .act, .call 21 [(.tmp 24)]⟩,
    ⟨(some 5), none, .act, .mv (.tmp 25)⟩])
  (.seq (.region [
    ⟨(some 26), none, .act, .mv (.tmp 0)⟩,
    ⟨(some 27), none, .act, .call 30 [(.tmp 26), (.const (.string ⟨#[112, 114, 105, 109, 97, 114, 121]⟩))]⟩])
  (.cond (.tmp 27)
   (.seq (.seq (.region [
     ⟨(some 28), none, .act, .mv (.tmp 1)⟩,
     ⟨(some 29), none, .act, .nilCheck (.tmp 28)⟩,
     ⟨(some 30), none, .act, .fieldAddr 3 (.tmp 29)⟩,
     ⟨(some 31), none, .act, .load false 1 (.tmp 30)⟩,
     ⟨(some 32), none, .act, .bin .geq (.tmp 31) (.const (.int .i64 0))⟩])
   (.cond (.tmp 32)
    (.region [
      ⟨(some 33), none, .act, .mv (.tmp 0)⟩,
      ⟨(some 34), none, .act, .mv (.tmp 5)⟩,
      ⟨(some 35), none, .act, .call 20 [(.tmp 33), (.tmp 34), (.const (.int .i64 200))]⟩])
    .skip))
   (.seq (.region [
     ⟨(some 36), none, .act, .mv (.tmp 0)⟩,
     ⟨(some 37), none, .act, .buildSl 1 [(.string ⟨#[]⟩)] 1 [(0, (.const (.string ⟨#[107, 101, 121]⟩)))]⟩,
     ⟨(some 38), none, .act, .call 34 [(.tmp 36), (.tmp 37)]⟩])
   (.region [
     ⟨(some 39), none, .act, .mv (.tmp 1)⟩,
     ⟨(some 40), none, .act, .mv (.tmp 1)⟩,
     ⟨(some 41), none, .act, .nilCheck (.tmp 40)⟩,
     ⟨(some 42), none, .act, .fieldAddr 2 (.tmp 41)⟩,
     ⟨(some 43), none, .act, .load false 1 (.tmp 42)⟩,
     ⟨(some 44), none, .act, .len (.tmp 43)⟩,
     ⟨(some 45), none, .act, .nilCheck (.tmp 39)⟩,
     ⟨(some 46), none, .act, .fieldAddr 3 (.tmp 45)⟩,
     ⟨none, none, .act, .store 1 (.tmp 46) (.tmp 44)⟩])))
   .skip)))
  (.region [
    ⟨(some 47), none, .pure, .mv (.tmp 1)⟩,
    ⟨(some 48), none, .pure, .mv (.tmp 1)⟩,
    ⟨(some 49), none, .pure, .nilCheck (.tmp 48)⟩,
    ⟨(some 50), none, .pure, .fieldAddr 2 (.tmp 49)⟩,
    ⟨(some 51), none, .read, .load false 1 (.tmp 50)⟩,
    ⟨(some 52), none, .read, .load true 3 (.tmp 4)⟩,
    ⟨(some 53), none, .pure, .buildSl 3 [(.string ⟨#[]⟩), (.int .i64 0), (.bool false)] 1 [(0, (.tmp 52))]⟩,
    ⟨(some 54), none, .act, .append 3 32 [(.string ⟨#[]⟩), (.int .i64 0), (.bool false)] (.tmp 51) (.tmp 53)⟩,
    ⟨(some 55), none, .pure, .nilCheck (.tmp 47)⟩,
    ⟨(some 56), none, .pure, .fieldAddr 2 (.tmp 55)⟩,
    ⟨none, none, .act, .store 1 (.tmp 56) (.tmp 54)⟩])))
def r48e : RCode :=
  (.region [
    ⟨(some 47), none, .pure, .mv (.tmp 1)⟩,
    ⟨(some 48), none, .pure, .mv (.tmp 1)⟩,
    ⟨(some 49), none, .pure, .nilCheck (.tmp 48)⟩,
    ⟨(some 50), none, .pure, .fieldAddr 2 (.tmp 49)⟩,
    ⟨(some 51), none, .read, .load false 1 (.tmp 50)⟩,
    ⟨(some 52), none, .read, .load true 3 (.tmp 4)⟩,
    ⟨(some 53), none, .pure, .buildSl 3 [(.string ⟨#[]⟩), (.int .i64 0), (.bool false)] 1 [(0, (.tmp 52))]⟩,
    ⟨(some 54), none, .act, .append 3 32 [(.string ⟨#[]⟩), (.int .i64 0), (.bool false)] (.tmp 51) (.tmp 53)⟩,
    ⟨(some 55), none, .pure, .nilCheck (.tmp 47)⟩,
    ⟨(some 56), none, .pure, .fieldAddr 2 (.tmp 55)⟩,
    ⟨none, none, .act, .store 1 (.tmp 56) (.tmp 54)⟩])
theorem col_end (key : Int) (st : PS) (tn : List UInt8) (idx : AV) (cs : List Col) (hcs : cs.length ≤ 1000) (x : Col) (p q b4 : Nat) (h₀ h : AHeap) (c : Cap) (hs : SAt T fin p q h₀ st c (crA tn (colsA cs c) key idx) h) (h4 : h b4 = some (.box (colA x))) (n4p : b4 ≠ p) (n4q : b4 ≠ q) :
    RRun Try.prog Try.f48 57 [.code r48e] (Env.get [(1, ptrAt q 2), (4, ptr b4)]) h (SRes T fin p q h₀ st (fun c' => crA tn (colsA (cs ++ [x]) c') key idx)) := by
  obtain ⟨hne, ⟨x0, hx0⟩, ⟨y0, hy0⟩, ho, hg, hp, hq⟩ := hs
  obtain ⟨nm, kd, nn⟩ := x
  have nqp := Ne.symm hne
  unfold crA colsA colA at *
  unfold r48e
  repeat' (first | (refine S.op rfl ?_; first | refine R.mv rfl ?_ | refine R.fieldAddr rfl ?_ | refine R.nilCheck rfl ?_ | refine R.load (by decide) rfl (by (repeat' (first | assumption)); first | done | fail) rfl ?_ | refine R.buildSl rfl rfl rfl (by decide) ?_) | refine S.region ?_)
  refine S.op rfl (S.appO (h₀ := h₀) (ps := [p, q]) (ys := [[str nm, i64 kd, bl nn]]) rfl ho (ps_some hp hq) rfl rfl (.sl _ _) ?_ ?_ ?_ (fun c' h' ho' hk' hk2 => ?_))
  · intro e he a ha
    simp only [List.mem_singleton] at he
    subst he
    simp only [List.mem_cons, List.not_mem_nil, or_false] at ha
    rcases ha with rfl | rfl | rfl <;> rfl
  · simp only [List.length_map, List.length_singleton]; omega
  · simp only [List.length_map, List.length_singleton]; omega
  have hp' := hk' p _ hp
  have hq' := hk' q _ hq
  have hg' := hg.kept hk2
  repeat' (first | refine S.nilK ?_ | (refine S.op rfl ?_; first | refine R.fieldAddr rfl ?_ | refine R.nilCheck rfl ?_) | (refine S.op0 rfl ?_; first | refine S.storeN rfl rfl (by (repeat' (first | assumption)); first | done | fail) rfl rfl rfl (by rfl) rfl (by repeat' (first | exact rfl)) ?_))
  apply S.done rr48
  case hx => repeat (first | exact ResAt.nil)
  refine ⟨c', ho'.set hy0 (by simp), hg'.setP hq', (by (repeat' (first | assumption | refine AHeap.so ?_ ?_)); first | done | fail), ?_⟩
  rw [AHeap.set_same]
  simp [crA, colsA, colA, over]
theorem SAt.pset {p q : Nat} {h₀ h : AHeap} {st st' : PS} {c : Cap} {A : List AV} (hs : SAt T fin p q h₀ st c A h) : SAt T fin p q h₀ st' c A (h.set p (.box (pst T fin st'))) := by
  obtain ⟨hne, ⟨x0, hx0⟩, hq0, ho, hg, hp, hq⟩ := hs
  exact ⟨hne, ⟨x0, hx0⟩, hq0, ho.set hx0 (by simp), hg.setP hp, AHeap.set_same _ _ _, (AHeap.set_other _ _ (Ne.symm hne)).trans hq⟩
theorem SAt.qset {p q : Nat} {h₀ h : AHeap} {st : PS} {c : Cap} {A A' : List AV} (hs : SAt T fin p q h₀ st c A h) : SAt T fin p q h₀ st c A' (h.set q (.box A')) := by
  obtain ⟨hne, hp0, ⟨y0, hy0⟩, ho, hg, hp, hq⟩ := hs
  exact ⟨hne, hp0, ⟨y0, hy0⟩, ho.set hy0 (by simp), hg.setP hq, (AHeap.set_other _ _ hne).trans hp, AHeap.set_same _ _ _⟩
theorem SAt.loc {p q : Nat} {h₀ h : AHeap} {st : PS} {c : Cap} {A : List AV} (hs : SAt T fin p q h₀ st c A h) {b : Nat} {o : ABlk} (hb : h b = none) : SAt T fin p q h₀ st c A (h.set b o) := by
  obtain ⟨hne, hp0, hq0, ho, hg, hp, hq⟩ := hs
  exact ⟨hne, hp0, hq0, ho.loc hb, hg.setF hb, AHeap.get_fresh hb hp, AHeap.get_fresh hb hq⟩
theorem col_key (hT : TOk T) (st : PS) (hi : st.i ≤ T.length) (tn : List UInt8) (idx : AV) (cs : List Col) (hcs : cs.length ≤ 1000) (x : Col) (key : Int) : ∃ (key' : Int) (st' : PS), Goes T st st' ∧
    ∀ (p q b4 : Nat) (h₀ h : AHeap) (c : Cap), SAt T fin p q h₀ st c (crA tn (colsA cs c) key idx) h → h b4 = some (.box (colA x)) → b4 ≠ p → b4 ≠ q →
    RRun Try.prog Try.f48 57 [.code r48p] (Env.get [(0, ptr p), (1, ptrAt q 2), (4, ptr b4)]) h (SRes T fin p q h₀ st' (fun c' => crA tn (colsA (cs ++ [x]) c') key' idx)) := by
  have cat := at_spec (T := T) (fin := fin) st
  generalize atP T fin st = a at cat
  have hl : (cs.map colA).length = cs.length := by simp
  rcases take_cases (fin := fin) hT.len st [112, 114, 105, 109, 97, 114, 121] with ⟨e, hlt, ct⟩ | ⟨e, ct⟩
  · clear e
    by_cases hk : 0 ≤ key
    · have cf := fail_spec (T := T) (fin := fin) st.next a 200
      have g1 := goes_fail (T := T) (st := st.next) hlt a 200
      generalize st.next.fail a 200 = s1 at cf g1
      have cd := need_spec (T := T) (fin := fin) hT.len [[107, 101, 121]] (by decide) .full s1
      have g2 := goes_need (fin := fin) (st := s1) g1.2.1 [[107, 101, 121]]
      generalize needP T fin s1 [[107, 101, 121]] = s2 at cd g2
      refine ⟨cs.length, s2, (Goes.next hlt).trans (g1.trans g2), ?_⟩
      intro p q b4 h₀ h c hs h4 n4p n4q
      have hend := fun h' hs' h4' => col_end (T := T) (fin := fin) (cs.length : Int) s2 tn idx cs hcs x p q b4 h₀ h' c hs' h4' n4p n4q
      have fin1 := (hs.qset (A' := crA tn (colsA cs c) cs.length idx)).pset (st' := s2)
      obtain ⟨hne, ⟨x0, hx0⟩, ⟨y0, hy0⟩, ho, hg, hp, hq⟩ := hs
      have nqp := Ne.symm hne
      have npb := Ne.symm n4p
      have nqb := Ne.symm n4q
      have hend := hend _ fin1 (by (repeat' (first | assumption | refine AHeap.so ?_ ?_)); first | done | fail)
      unfold crA colsA at *
      rw [← hl] at hend ⊢
      unfold r48p
      repeat' (first | ((show RRun _ _ _ [.code r48e] _ _ _; exact S.keep [1, 4] rfl hend)) | refine S.nilK ?_ | (refine S.op rfl ?_; first | (show ROpS _ _ (.call 21 _) _ _ _; refine callPC0 rfl rfl cat (by repeat' (first | assumption)) (by (repeat' (first | assumption)); first | done | fail) ?_) | (show ROpS _ _ (.call 30 _) _ _ _; refine callPC rfl rfl ct (by repeat' (first | assumption)) (by (repeat' (first | assumption)); first | done | fail) (by repeat' (first | exact rfl)) ?_) | (show ROpS _ _ (.call 20 _) _ _ _; refine callPCU rfl rfl cf (by repeat' (first | assumption | refine Glob.setP ?_ (by (repeat' (first | assumption)); first | done | fail))) (by (repeat' (first | exact AHeap.set_same _ _ _)); first | done | fail) (by repeat' (first | exact AHeap.set_set _ _ _ _)) (fun x => ?_)) | (show ROpS _ _ (.call 34 _) _ _ _; refine callPCU rfl rfl cd (by repeat' (first | assumption | refine Glob.setP ?_ (by (repeat' (first | assumption)); first | done | fail))) (by (repeat' (first | exact AHeap.set_same _ _ _)); first | done | fail) (by repeat' (first | exact AHeap.set_set _ _ _ _)) (fun x => ?_)) | refine R.mv rfl ?_ | refine R.fieldAddr rfl ?_ | refine R.nilCheck rfl ?_ | refine R.load (by decide) rfl (by (repeat' (first | assumption | refine AHeap.so ?_ ?_)); first | done | fail) rfl ?_ | refine R.len rfl ?_ | refine R.buildSl rfl rfl rfl (by decide) ?_ | ((first | refine S.geq rfl rfl ?_ ?_) <;> intro hlt <;> try (exfalso; omega))) | (refine S.op0 rfl ?_; first | refine S.storeN rfl rfl (by (repeat' (first | assumption | refine AHeap.so ?_ ?_)); first | done | fail) rfl rfl rfl (by rfl) rfl (by repeat' (first | (apply AHeap.upd1; · exact (by first | assumption)) | exact rfl)) ?_) | refine S.seq ?_ | refine S.region ?_ | refine S.condT rfl ?_)
    · have cd := need_spec (T := T) (fin := fin) hT.len [[107, 101, 121]] (by decide) .full st.next
      have g2 := goes_need (fin := fin) (st := st.next) hlt [[107, 101, 121]]
      generalize needP T fin st.next [[107, 101, 121]] = s2 at cd g2
      refine ⟨cs.length, s2, (Goes.next hlt).trans g2, ?_⟩
      intro p q b4 h₀ h c hs h4 n4p n4q
      have hend := fun h' hs' h4' => col_end (T := T) (fin := fin) (cs.length : Int) s2 tn idx cs hcs x p q b4 h₀ h' c hs' h4' n4p n4q
      have fin1 := (hs.qset (A' := crA tn (colsA cs c) cs.length idx)).pset (st' := s2)
      obtain ⟨hne, ⟨x0, hx0⟩, ⟨y0, hy0⟩, ho, hg, hp, hq⟩ := hs
      have nqp := Ne.symm hne
      have npb := Ne.symm n4p
      have nqb := Ne.symm n4q
      have hend := hend _ fin1 (by (repeat' (first | assumption | refine AHeap.so ?_ ?_)); first | done | fail)
      unfold crA colsA at *
      rw [← hl] at hend ⊢
      unfold r48p
      repeat' (first | ((show RRun _ _ _ [.code r48e] _ _ _; exact S.keep [1, 4] rfl hend)) | refine S.nilK ?_ | (refine S.op rfl ?_; first | (show ROpS _ _ (.call 21 _) _ _ _; refine callPC0 rfl rfl cat (by repeat' (first | assumption)) (by (repeat' (first | assumption)); first | done | fail) ?_) | (show ROpS _ _ (.call 30 _) _ _ _; refine callPC rfl rfl ct (by repeat' (first | assumption)) (by (repeat' (first | assumption)); first | done | fail) (by repeat' (first | exact rfl)) ?_) | (show ROpS _ _ (.call 34 _) _ _ _; refine callPCU rfl rfl cd (by repeat' (first | assumption | refine Glob.setP ?_ (by (repeat' (first | assumption)); first | done | fail))) (by (repeat' (first | exact AHeap.set_same _ _ _)); first | done | fail) (by repeat' (first | exact AHeap.set_set _ _ _ _)) (fun x => ?_)) | refine R.mv rfl ?_ | refine R.fieldAddr rfl ?_ | refine R.nilCheck rfl ?_ | refine R.load (by decide) rfl (by (repeat' (first | assumption | refine AHeap.so ?_ ?_)); first | done | fail) rfl ?_ | refine R.len rfl ?_ | refine R.buildSl rfl rfl rfl (by decide) ?_ | ((first | refine S.geq rfl rfl ?_ ?_) <;> intro hlt <;> try (exfalso; omega))) | (refine S.op0 rfl ?_; first | refine S.storeN rfl rfl (by (repeat' (first | assumption | refine AHeap.so ?_ ?_)); first | done | fail) rfl rfl rfl (by rfl) rfl (by repeat' (first | (apply AHeap.upd1; · exact (by first | assumption)) | exact rfl)) ?_) | refine S.seq ?_ | refine S.region ?_ | refine S.condT rfl ?_ | refine S.condF rfl ?_ | refine RRun.skip ?_)
  · clear e
    refine ⟨key, st, Goes.refl hi, ?_⟩
    intro p q b4 h₀ h c hs h4 n4p n4q
    have hend := col_end (T := T) (fin := fin) key st tn idx cs hcs x p q b4 h₀ h c hs h4 n4p n4q
    obtain ⟨hne, ⟨x0, hx0⟩, ⟨y0, hy0⟩, ho, hg, hp, hq⟩ := hs
    unfold r48p
    repeat' (first | ((show RRun _ _ _ [.code r48e] _ _ _; exact S.keep [1, 4] rfl hend)) | refine S.nilK ?_ | (refine S.op rfl ?_; first | (show ROpS _ _ (.call 21 _) _ _ _; refine callPC0 rfl rfl cat (by repeat' (first | assumption)) (by (repeat' (first | assumption)); first | done | fail) ?_) | (show ROpS _ _ (.call 30 _) _ _ _; refine callPC0 rfl rfl ct (by repeat' (first | assumption)) (by (repeat' (first | assumption)); first | done | fail) ?_) | refine R.mv rfl ?_) | refine S.seq ?_ | refine S.region ?_ | refine S.condF rfl ?_ | refine RRun.skip ?_)
end
end Go.Proofs.Ytdinnoejipmiiaa

namespace Go.Av
theorem OAt.set2 {h₀ h : AHeap} {ps : List Nat} {c : Cap} (ho : OAt h₀ ps c h) {b : Nat} {o' : ABlk} {cs : List AV} (h0 : h₀ b = none) (hb : h b = some (.box cs)) : OAt h₀ ps c (h.set b o') :=
  ⟨ownT_loc ho.own fun y hy => AHeap.set_other _ _ (fun e => by subst e; exact ho.notH hb hy), ho.tok, fun y o2 e hn => by
    rw [AHeap.set_other _ _ (fun e' => by subst e'; rw [h0] at e; cases e)]; exact ho.fr y o2 e hn⟩
theorem OAt.none {h₀ h : AHeap} {ps : List Nat} {c : Cap} (ho : OAt h₀ ps c h) (hps : ∀ x ∈ ps, h x ≠ Option.none) {b : Nat} (hb : h b = Option.none) : h₀ b = Option.none := by
  cases e0 : h₀ b with
  | none => rfl
  | some o =>
    by_cases hm : b ∈ ps
    · exact absurd hb (hps b hm)
    · rw [ho.fr b o e0 hm] at hb; cases hb
theorem Glob.set2 {h : AHeap} (hg : Glob h) {b : Nat} {o : ABlk} {cs : List AV} (hb : h b = some (.box cs)) : Glob (h.set b o) := by
  obtain ⟨o', m, h0, hc⟩ := hg
  exact ⟨o', m, (AHeap.set_other _ _ (fun e => by subst e; rw [h0] at hb; cases hb)).trans h0, hc⟩
end Go.Av
namespace Go.Proofs.Ytdinnoejipmiiaa
open Go.Av
open Go.Av.Pa (PS atP isP wrongP takeP needP kindP nameP opsP operatorP enterP ev exprP expressionP)
section
variable {T : List Tok} {fin : Int}
theorem SAt.loc2 {p q : Nat} {h₀ h : AHeap} {st : PS} {c : Cap} {A : List AV} (hs : SAt T fin p q h₀ st c A h) {b : Nat} {o : ABlk} {cs : List AV} (h0 : h₀ b = none) (np : b ≠ p) (nq : b ≠ q) (hb : h b = some (.box cs)) : SAt T fin p q h₀ st c A (h.set b o) := by
  obtain ⟨hne, hp0, hq0, ho, hg, hp, hq⟩ := hs
  exact ⟨hne, hp0, hq0, ho.set2 h0 hb, hg.set2 hb, (AHeap.set_other _ _ (Ne.symm np)).trans hp, (AHeap.set_other _ _ (Ne.symm nq)).trans hq⟩
theorem col_nn (hT : TOk T) (st : PS) (hi : st.i ≤ T.length) (tn : List UInt8) (idx : AV) (cs : List Col) (hcs : cs.length ≤ 1000) (nm : List UInt8) (kd : Int) (key : Int) : ∃ (x : Col) (key' : Int) (st' : PS), Goes T st st' ∧
    ∀ (p q b4 : Nat) (h₀ h : AHeap) (c : Cap), SAt T fin p q h₀ st c (crA tn (colsA cs c) key idx) h → h b4 = some (.box [str nm, i64 kd, bl false]) → b4 ≠ p → b4 ≠ q → h₀ b4 = none →
    RRun Try.prog Try.f48 57 [.code r48n] (Env.get [(0, ptr p), (1, ptrAt q 2), (4, ptr b4)]) h (SRes T fin p q h₀ st' (fun c' => crA tn (colsA (cs ++ [x]) c') key' idx)) := by
  obtain ⟨b, s1, g1, _, ct⟩ := take_any (fin := fin) hT st hi [110, 111, 116]
  cases b with
  | true =>
    have cd := need_spec (T := T) (fin := fin) hT.len [[110, 117, 108, 108]] (by decide) .full s1
    have g2 := goes_need (fin := fin) (st := s1) g1.2.1 [[110, 117, 108, 108]]
    generalize needP T fin s1 [[110, 117, 108, 108]] = s2 at cd g2
    obtain ⟨key', s3, g3, H⟩ := col_key (fin := fin) hT s2 g2.2.1 tn idx cs hcs ⟨nm, kd, true⟩ key
    refine ⟨⟨nm, kd, true⟩, key', s3, g1.trans (g2.trans g3), ?_⟩
    intro p q b4 h₀ h c hs h4 n4p n4q h04
    have H := fun h' hs' h4' => H p q b4 h₀ h' c hs' h4' n4p n4q
    have hs' := hs
    obtain ⟨hne, ⟨x0, hx0⟩, ⟨y0, hy0⟩, ho, hg, hp, hq⟩ := hs'
    have nqp := Ne.symm hne
    have npb := Ne.symm n4p
    have nqb := Ne.symm n4q
    have fin2 : SAt T fin p q h₀ s2 c (crA tn (colsA cs c) key idx) ((h.set b4 (.box (colA ⟨nm, kd, true⟩))).set p (.box (pst T fin s2))) := (hs.loc2 h04 n4p n4q h4).pset
    have hend := H _ fin2 ((AHeap.set_other _ _ n4p).trans (AHeap.set_same _ _ _))
    unfold r48n
    unfold colA at hend
    repeat' (first | ((show RRun _ _ _ [.code r48p] _ _ _; exact S.keep [0, 1, 4] rfl hend)) | refine S.nilK ?_ | (refine S.op rfl ?_; first | (show ROpS _ _ (.call 30 _) _ _ _; refine callPC rfl rfl ct (by repeat' (first | assumption)) (by (repeat' (first | assumption)); first | done | fail) (by repeat' (first | exact rfl)) ?_) | (show ROpS _ _ (.call 34 _) _ _ _; refine callPCU rfl rfl cd (by repeat' (first | assumption | refine Glob.setP ?_ (by (repeat' (first | assumption | refine AHeap.so ?_ ?_)); first | done | fail))) (by (repeat' (first | exact AHeap.set_same _ _ _)); first | done | fail) (by repeat' (first | exact AHeap.set_set _ _ _ _)) (fun x => ?_)) | refine R.mv rfl ?_ | refine R.fieldAddr rfl ?_ | refine R.load (by decide) rfl (by (repeat' (first | assumption | exact AHeap.set_same _ _ _ | refine AHeap.so ?_ ?_)); first | done | fail) rfl ?_ | refine R.buildSl rfl rfl rfl (by decide) ?_) | (refine S.op0 rfl ?_; first | refine S.storeN rfl rfl (by (repeat' (first | assumption | refine AHeap.so ?_ ?_)); first | done | fail) rfl rfl rfl (by rfl) rfl (by repeat' (first | (apply AHeap.upd1; · exact (by first | assumption)) | exact rfl)) ?_) | refine S.seq ?_ | refine S.region ?_ | refine S.condT rfl ?_)
  | false =>
    obtain ⟨key', s3, g3, H⟩ := col_key (fin := fin) hT s1 g1.2.1 tn idx cs hcs ⟨nm, kd, false⟩ key
    refine ⟨⟨nm, kd, false⟩, key', s3, g1.trans g3, ?_⟩
    intro p q b4 h₀ h c hs h4 n4p n4q h04
    have H := fun h' hs' h4' => H p q b4 h₀ h' c hs' h4' n4p n4q
    have hs' := hs
    obtain ⟨hne, ⟨x0, hx0⟩, ⟨y0, hy0⟩, ho, hg, hp, hq⟩ := hs'
    have nqp := Ne.symm hne
    have npb := Ne.symm n4p
    have nqb := Ne.symm n4q
    have fin2 : SAt T fin p q h₀ s1 c (crA tn (colsA cs c) key idx) ((h.set b4 (.box (colA ⟨nm, kd, false⟩))).set p (.box (pst T fin s1))) := (hs.loc2 h04 n4p n4q h4).pset
    have hend := H _ fin2 ((AHeap.set_other _ _ n4p).trans (AHeap.set_same _ _ _))
    unfold r48n
    unfold colA at hend
    repeat' (first | ((show RRun _ _ _ [.code r48p] _ _ _; exact S.keep [0, 1, 4] rfl hend)) | refine S.nilK ?_ | (refine S.op rfl ?_; first | (show ROpS _ _ (.call 30 _) _ _ _; refine callPC rfl rfl ct (by repeat' (first | assumption)) (by (repeat' (first | assumption)); first | done | fail) (by repeat' (first | exact rfl)) ?_) | refine R.mv rfl ?_ | refine R.fieldAddr rfl ?_ | refine R.load (by decide) rfl (by (repeat' (first | assumption | exact AHeap.set_same _ _ _ | refine AHeap.so ?_ ?_)); first | done | fail) rfl ?_) | (refine S.op0 rfl ?_; first | refine S.storeN rfl rfl (by (repeat' (first | assumption | refine AHeap.so ?_ ?_)); first | done | fail) rfl rfl rfl (by rfl) rfl (by repeat' (first | (apply AHeap.upd1; · exact (by first | assumption)) | exact rfl)) ?_) | refine S.seq ?_ | refine S.region ?_ | refine S.condF rfl ?_ | refine RRun.skip ?_)
theorem col_spec (hT : TOk T) (st : PS) (hi : st.i ≤ T.length) (tn : List UInt8) (idx : AV) (cs : List Col) (hcs : cs.length ≤ 1000) (key : Int) : ∃ (x : Col) (key' : Int) (st' : PS), Goes T st st' ∧
    SC T fin 48 2 (fun c => crA tn (colsA cs c) key idx) st (fun c => crA tn (colsA (cs ++ [x]) c) key' idx) st' := by
  have cn := name_spec (fin := fin) hT st
  have g1 := goes_name (fin := fin) (st := st) hi
  generalize nameP T fin st = r at cn g1
  obtain ⟨nm, s1⟩ := r
  simp only at cn g1
  obtain ⟨b, s2, g2, _, ct⟩ := take_any (fin := fin) hT s1 g1.2.1 [105, 110, 116]
  cases b with
  | true =>
    obtain ⟨x, key', s3, g3, H⟩ := col_nn (fin := fin) hT s2 g2.2.1 tn idx cs hcs nm 1 key
    refine ⟨x, key', s3, g1.trans (g2.trans g3), ?_⟩
    intro p q h₀ h c hs
    obtain ⟨c', hc1, hc2⟩ := res48
    refine ACalls.enter Try.func48 hc1 Try.ntmps48 hc2 (Nat.le_of_ble_eq_true rfl) rfl ?_
    have hs2 := hs.pset (st' := s2)
    obtain ⟨hne, ⟨x0, hx0⟩, ⟨y0, hy0⟩, ho, hg, hp, hq⟩ := hs
    have nqp := Ne.symm hne
    repeat' (first | ((show RRun _ _ _ [.code r48n] _ _ _; exact S.keep [0, 1, 4] rfl (H p q _ h₀ _ c (hs2.loc (by (repeat' (first | exact AHeap.z1 ‹_› | refine AHeap.so ?_ ?_ | exact AHeap.n1 ‹_›)); first | done | fail)) (by (repeat' (first | exact AHeap.set_same _ _ _)); first | done | fail) (by first | exact AHeap.n1 ‹_›) (by first | exact AHeap.n8 ‹_› ‹_›) (ho.none (ps_some hp hq) (by (repeat' (first | exact AHeap.z1 ‹_›)); first | done | fail))))) | refine S.nilK ?_ | (refine S.op rfl ?_; first | (show ROpS _ _ (.call 35 _) _ _ _; refine callPC rfl rfl cn (by repeat' (first | assumption)) (by (repeat' (first | assumption)); first | done | fail) (by repeat' (first | exact rfl)) ?_) | (show ROpS _ _ (.call 30 _) _ _ _; refine callPC rfl rfl ct (by repeat' (first | assumption | refine Glob.setF ?_ (by (repeat' (first | assumption)); first | done | fail) | refine Glob.setP ?_ (by (repeat' (first | assumption)); first | done | fail))) (by (repeat' (first | exact AHeap.set_same _ _ _ | refine AHeap.get_fresh ‹_› ?_)); first | done | fail) (by repeat' (first | exact AHeap.set_set _ _ _ _ | (apply AHeap.upd1; · exact (by first | exact AHeap.n1 ‹_›)))) ?_) | refine R.mv rfl ?_ | refine R.not rfl ?_ | refine R.alloc rfl (fun b hb => ?_) | refine R.build rfl rfl ?_) | (refine S.op0 rfl ?_; first | refine S.storeN rfl rfl (by (repeat' (first | exact AHeap.set_same _ _ _)); first | done | fail) rfl rfl rfl (by rfl) rfl (by repeat' (first | exact AHeap.set_set _ _ _ _)) ?_) | refine S.seq ?_ | refine S.region ?_ | refine S.condF rfl ?_ | refine RRun.skip ?_)
  | false =>
    have cd := need_spec (T := T) (fin := fin) hT.len [[116, 101, 120, 116]] (by decide) .full s2
    have g4 := goes_need (fin := fin) (st := s2) g2.2.1 [[116, 101, 120, 116]]
    generalize needP T fin s2 [[116, 101, 120, 116]] = s4 at cd g4
    obtain ⟨x, key', s3, g3, H⟩ := col_nn (fin := fin) hT s4 g4.2.1 tn idx cs hcs nm 2 key
    refine ⟨x, key', s3, g1.trans (g2.trans (g4.trans g3)), ?_⟩
    intro p q h₀ h c hs
    obtain ⟨c', hc1, hc2⟩ := res48
    refine ACalls.enter Try.func48 hc1 Try.ntmps48 hc2 (Nat.le_of_ble_eq_true rfl) rfl ?_
    have hs2 := hs.pset (st' := s4)
    obtain ⟨hne, ⟨x0, hx0⟩, ⟨y0, hy0⟩, ho, hg, hp, hq⟩ := hs
    have nqp := Ne.symm hne
    repeat' (first | ((show RRun _ _ _ [.code r48n] _ _ _; exact S.keep [0, 1, 4] rfl (H p q _ h₀ _ c (hs2.loc (by (repeat' (first | exact AHeap.z1 ‹_› | refine AHeap.so ?_ ?_ | exact AHeap.n1 ‹_›)); first | done | fail)) (by (repeat' (first | exact AHeap.set_same _ _ _)); first | done | fail) (by first | exact AHeap.n1 ‹_›) (by first | exact AHeap.n8 ‹_› ‹_›) (ho.none (ps_some hp hq) (by (repeat' (first | exact AHeap.z1 ‹_›)); first | done | fail))))) | refine S.nilK ?_ | (refine S.op rfl ?_; first | (show ROpS _ _ (.call 35 _) _ _ _; refine callPC rfl rfl cn (by repeat' (first | assumption)) (by (repeat' (first | assumption)); first | done | fail) (by repeat' (first | exact rfl)) ?_) | (show ROpS _ _ (.call 30 _) _ _ _; refine callPC rfl rfl ct (by repeat' (first | assumption | refine Glob.setF ?_ (by (repeat' (first | assumption)); first | done | fail) | refine Glob.setP ?_ (by (repeat' (first | assumption)); first | done | fail))) (by (repeat' (first | exact AHeap.set_same _ _ _ | refine AHeap.get_fresh ‹_› ?_)); first | done | fail) (by repeat' (first | exact AHeap.set_set _ _ _ _ | (apply AHeap.upd1; · exact (by first | exact AHeap.n1 ‹_›)))) ?_) | (show ROpS _ _ (.call 34 _) _ _ _; refine callPCU rfl rfl cd (by repeat' (first | assumption | refine Glob.setF ?_ (by (repeat' (first | exact AHeap.z1 ‹_› | refine AHeap.so ?_ ?_ | exact AHeap.n1 ‹_›)); first | done | fail) | refine Glob.setP ?_ (by (repeat' (first | assumption)); first | done | fail))) (by (repeat' (first | exact AHeap.set_same _ _ _ | refine AHeap.so ?_ ?_ | exact AHeap.n2 ‹_›)); first | done | fail) (by repeat' (first | exact AHeap.set_set _ _ _ _ | (apply AHeap.upd1; · exact (by first | exact AHeap.n1 ‹_›)))) (fun x => ?_)) | refine R.mv rfl ?_ | refine R.fieldAddr rfl ?_ | refine R.not rfl ?_ | refine R.alloc rfl (fun b hb => ?_) | refine R.build rfl rfl ?_ | refine R.buildSl rfl rfl rfl (by decide) ?_) | (refine S.op0 rfl ?_; first | refine S.storeN rfl rfl (by (repeat' (first | exact AHeap.set_same _ _ _)); first | done | fail) rfl rfl rfl (by rfl) rfl (by repeat' (first | exact AHeap.set_set _ _ _ _)) ?_) | refine S.seq ?_ | refine S.region ?_ | refine S.condT rfl ?_)
end
end Go.Proofs.Ytdinnoejipmiiaa

namespace Go.Proofs.Ytdinnoejipmiiaa
open Go.Av
open Go.Av.Pa (PS atP isP wrongP takeP needP kindP nameP opsP operatorP enterP ev exprP expressionP)
def cloI (q : Nat) : AV := .v (.func (.func 62) #[] #[.pointer (some ⟨q, 0, none⟩)])
def colF (nm : List UInt8) (l : List Col) : Int := match l.findIdx? (fun x => x.nm == nm) with
  | some i => (i : Int)
  | none => -1
def r62 : RCode :=
  (.seq (.region [
    ⟨(some 2), none, .act, .box (.tmp 0)⟩,
    ⟨(some 3), none, .act, .mv (.const (.bool false))⟩])
  (.seq (.region [
    ⟨(some 4), none, .act, .fieldAddr 0 (.tmp 2)⟩,
    ⟨(some 5), none, .act, .load false 1 (.tmp 4)⟩,
    ⟨(some 6), none, .act, .load false 1 (.tmp 1)⟩,
    ⟨(some 7), none, .act, .eq false .str (.tmp 5) (.tmp 6)⟩,
    ⟨(some 3), none, .act, .mv (.tmp 7)⟩])
  .ret))
theorem res62 : ∃ c, Try.f62.body = some c ∧ resCode Try.prog 8 c = some r62 := ⟨_, rfl, by kernel_rfl⟩
theorem rr62 : resRes Try.prog Try.f62.results.toList = some [.tmp 3] := by kernel_rfl
theorem byName_spec (x : Col) (nm : List UInt8) (q : Nat) (h : AHeap) (hq : h q = some (.box [str nm])) : ACalls Try.prog 62 [.ag (colA x), ptr q] h (fun y h' => y = bl (x.nm == nm) ∧ h' = h) := by
  obtain ⟨c, hc1, hc2⟩ := res62
  refine ACalls.weak (ACalls.enter Try.func62 hc1 Try.ntmps62 hc2 (Nat.le_of_ble_eq_true rfl) rfl ?_)
  unfold colA
  repeat' (first | refine S.nilK ?_ | (refine S.op rfl ?_; first | (show ROpS _ _ (.eq _ _ _ _) _ _ _; refine S.eqSv rfl rfl rfl ?_) | refine R.mv rfl ?_ | refine R.fieldAddr rfl ?_ | refine R.load (by decide) rfl (by (repeat' (first | assumption | exact AHeap.set_same _ _ _ | refine AHeap.get_fresh ‹_› ?_)); first | done | fail) rfl ?_ | refine R.box rfl rfl rfl (fun b hb => ?_)) | refine S.seq ?_ | refine S.region ?_)
  apply S.ret rr62
  case hx => repeat (first | exact ResAt.nil | apply ResAt.tmp rfl)
  exact ⟨_, h, .refl _, (by repeat (first | exact AHeap.le.refl _ | refine AHeap.le.set ?_ _ (by (repeat' (first | assumption)); first | done | fail))), rfl, rfl⟩
def r61l0 : RCode :=
  (.seq (.region [
    ⟨(some 9), none, .act, .bin .lss (.tmp 8) (.tmp 7)⟩])
  (.seq (.cond (.tmp 9)
   .skip
   (.exit 0))
  (.seq (.block 1
   (.seq (.region [
     ⟨(some 10), none, .act, .mv (.tmp 8)⟩,
     ⟨(some 5), none, .act, .mv (.tmp 10)⟩])
   (.seq (.region [
     ⟨(some 11), none, .act, .mv (.tmp 1)⟩,
     ⟨(some 12), none, .act, .mv (.tmp 0)⟩,
     ⟨(some 13), none, .act, .mv (.tmp 5)⟩,
     ⟨(some 14), none, .act, .indexAddr 3 (.tmp 12) (.tmp 13)⟩,
     ⟨(some 15), none, .act, .load true 3 (.tmp 14)⟩,
     ⟨(some 16), none, .act, .callv (.tmp 11) [(.tmp 15)]⟩])
   (.cond (.tmp 16)
    (.seq (.region [
      ⟨(some 17), none, .act, .mv (.tmp 5)⟩,
      ⟨(some 4), none, .act, .mv (.tmp 17)⟩])
    .ret)
    .skip))))
  (.region [
    ⟨(some 18), none, .act, .bin .add (.tmp 8) (.const (.int .i64 1))⟩,
    ⟨(some 8), none, .act, .mv (.tmp 18)⟩]))))
def r61 : RCode :=
  (.seq (.region [
    ⟨(some 4), none, .act, .mv (.const (.int .i64 0))⟩])
  (.seq (.seq (.region [
    ⟨(some 6), none, .act, .mv (.tmp 0)⟩,
    ⟨(some 7), none, .act, .len (.tmp 6)⟩,
    ⟨(some 8), none, .act, .mv (.const (.int .i64 0))⟩])
  (.block 0
   (.loop r61l0)))
  (.seq (.region [
    ⟨(some 4), none, .act, .mv (.const (.int .i64 (-1)))⟩])
  .ret)))
theorem res61 : ∃ c, Try.f61.body = some c ∧ resCode Try.prog 19 c = some r61 := ⟨_, rfl, by kernel_rfl⟩
theorem rr61 : resRes Try.prog Try.f61.results.toList = some [.tmp 4] := by kernel_rfl
theorem colF_loop (l : List Col) (cc : Cap) (hl : l.length ≤ 2000) (nm : List UInt8) (q : Nat) (h : AHeap) (hq : h q = some (.box [str nm])) : ∀ (m i : Nat), i + m = l.length → (∀ x ∈ l.take i, ¬ (x.nm == nm) = true) →
    RRun Try.prog Try.f61 19 (.inLoop r61l0 :: .inBlock 0 :: [.code (.seq (.region [⟨(some 4), none, .act, .mv (.const (.int .i64 (-1)))⟩]) .ret)]) (Env.get [(0, colsA l cc), (1, cloI q), (7, i64 l.length), (8, i64 i)]) h (fun y h' => y = i64 (colF nm l) ∧ h' = h) := by
  intro m
  induction m with
  | zero =>
    intro i hi hn
    rw [List.take_of_length_le (by omega)] at hn
    refine RRun.inLoop ?_
    unfold colsA
    repeat' (first | refine S.nilK ?_ | (refine S.op rfl ?_; first | refine R.mv rfl ?_ | ((first | refine S.lss rfl rfl ?_ ?_) <;> intro hlt <;> try (exfalso; omega))) | refine S.seq ?_ | refine S.region ?_ | refine S.condF rfl ?_ | refine RRun.exit rfl ?_)
    apply S.ret rr61
    case hx => repeat (first | exact ResAt.nil | apply ResAt.tmp rfl)
    have : l.findIdx? (fun x => x.nm == nm) = none := by
      rw [List.findIdx?_eq_none_iff]
      intro x hx
      exact Bool.eq_false_iff.2 (hn x hx)
    unfold colF
    rw [this]
    exact ⟨rfl, rfl⟩
  | succ m ih =>
    intro i hi hn
    have hie : i < l.length := by omega
    have h1 : (l.map colA)[((i : Nat) : Int).toNat]? = some (colA l[i]) := by simp [hie]
    have c62 := byName_spec l[i] nm q h hq
    refine RRun.inLoop ?_
    unfold colsA at *
    by_cases hop : (l[i].nm == nm) = true
    · rw [hop] at c62
      unfold colA at h1 c62
      repeat' (first | refine S.nilK ?_ | (refine S.op rfl ?_; first | refine R.indexAddr rfl rfl (by omega) h1 ?_ | refine R.callv rfl (f := 62) rfl rfl rfl (c62.mono fun y h' ⟨e1, e2⟩ => ?_) | refine R.mv rfl ?_ | refine R.loadR rfl rfl ?_ | ((first | refine S.lss rfl rfl ?_ ?_) <;> intro hlt <;> try (exfalso; omega))) | refine S.seq ?_ | refine S.region ?_ | refine S.condT rfl ?_ | refine RRun.skip ?_ | refine RRun.block ?_)
      subst e1; subst e2
      repeat' (first | refine S.nilK ?_ | (refine S.op rfl ?_; first | refine R.mv rfl ?_) | refine S.seq ?_ | refine S.region ?_ | refine S.condT rfl ?_)
      apply S.ret rr61
      case hx => repeat (first | exact ResAt.nil | apply ResAt.tmp rfl)
      have : l.findIdx? (fun x => x.nm == nm) = some i := by
        rw [List.findIdx?_eq_some_iff_getElem]
        refine ⟨hie, hop, fun j hj => ?_⟩
        exact hn l[j] (by
          rw [List.mem_take_iff_getElem]
          exact ⟨j, by omega, rfl⟩)
      unfold colF
      rw [this]
      exact ⟨rfl, rfl⟩
    · rw [Bool.eq_false_iff.2 hop] at c62
      unfold colA at h1 c62
      repeat' (first | refine S.nilK ?_ | (refine S.op rfl ?_; first | refine R.indexAddr rfl rfl (by omega) h1 ?_ | refine R.callv rfl (f := 62) rfl rfl rfl (c62.mono fun y h' ⟨e1, e2⟩ => ?_) | refine R.mv rfl ?_ | refine R.loadR rfl rfl ?_ | ((first | refine S.lss rfl rfl ?_ ?_) <;> intro hlt <;> try (exfalso; omega))) | refine S.seq ?_ | refine S.region ?_ | refine S.condT rfl ?_ | refine RRun.skip ?_ | refine RRun.block ?_)
      subst e1; subst e2
      repeat' (first | refine S.nilK ?_ | (refine S.op rfl ?_; first | refine R.mv rfl ?_ | refine S.addI rfl rfl (by omega) ?_) | refine S.region ?_ | refine S.condF rfl ?_ | refine RRun.skip ?_ | refine RRun.inBlock ?_)
      rw [show ((i : Int) + 1) = ((i + 1 : Nat) : Int) by omega]
      refine S.keep [0, 1, 7, 8] rfl (ih (i + 1) (by omega) fun x hx => ?_)
      rw [List.take_add_one, List.getElem?_eq_getElem hie] at hx
      rcases List.mem_append.1 hx with hx | hx
      · exact hn x hx
      · simp only [Option.toList_some, List.mem_singleton] at hx
        rw [hx]; exact hop
theorem colF_spec (l : List Col) (cc : Cap) (hl : l.length ≤ 2000) (nm : List UInt8) (q : Nat) (h : AHeap) (hq : h q = some (.box [str nm])) :
    ACalls Try.prog 61 [colsA l cc, cloI q] h (fun y h' => y = i64 (colF nm l) ∧ h' = h) := by
  obtain ⟨c, hc1, hc2⟩ := res61
  refine ACalls.enter Try.func61 hc1 Try.ntmps61 hc2 (Nat.le_of_ble_eq_true rfl) rfl ?_
  have hll : (l.map colA).length = l.length := by simp
  unfold colsA
  repeat' (first | refine S.nilK ?_ | (refine S.op rfl ?_; first | refine R.mv rfl ?_ | refine R.len rfl ?_) | refine S.seq ?_ | refine S.region ?_ | refine RRun.block ?_)
  rw [hll]
  exact RRun.loopIn (S.keep [0, 1, 7, 8] rfl (colF_loop l cc hl nm q h hq l.length 0 (by omega) (fun x hx => by simp at hx)))
section
variable {T : List Tok} {fin : Int}
def intsA (l : List Int) (c : Cap) : AV := .sl 1 (l.map fun i => [i64 i]) c
def r49 : RCode :=
  (.seq (.region [
    ⟨(some 7), none, .act, .mv (.tmp 0)⟩,
    ⟨(some 8), none, .act, .call 21 [(.tmp 7)]⟩,
    ⟨(some 4), none, .act, .mv (.tmp 8)⟩])
  (.seq (.region [
    ⟨(some 9), none, .act, .mv (.tmp 0)⟩,
    ⟨(some 10), none, .act, .call 35 [(.tmp 9)]⟩,
    ⟨(some 5), none, .act, .alloc [(.string ⟨#[]⟩)]⟩,
    ⟨none, none, .act, .store 1 (.tmp 5) (.tmp 10)⟩])
  (.seq (.region [
    ⟨(some 11), none, .act, .mv (.tmp 1)⟩,
    ⟨(some 12), none, .act, .nilCheck (.tmp 11)⟩,
    ⟨(some 13), none, .act, .fieldAddr 2 (.tmp 12)⟩,
    ⟨(some 14), none, .act, .load false 1 (.tmp 13)⟩,
    ⟨(some 15), none, .act, .makeFunc (.func 62) [] [(.tmp 5)]⟩,
    ⟨(some 16), none, .act, .call 61 [(.tmp 14), (.tmp 15)]⟩,
    ⟨(some 6), none, .act, .mv (.tmp 16)⟩])
  (.seq (.seq (.region [
    ⟨(some 17), none, .act, .mv (.tmp 6)⟩,
    ⟨(some 18), none, .act, .bin .lss (.tmp 17) (.const (.int .i64 0))⟩])
  (.cond (.tmp 18)
   (.region [
     ⟨(some 19), none, .act, .mv (.tmp 0)⟩,
     ⟨(some 20), none, .act, .mv (.tmp 4)⟩,
     ⟨(some 21), none, .act, .call 20 [(.tmp 19), (.tmp 20), (.const (.int .i64 200))]⟩])
   .skip))
  (.region [
    ⟨(some 22), none, .act, .mv (.tmp 1)⟩,
    ⟨(some 23), none, .act, .mv (.tmp 1)⟩,
    ⟨(some 24), none, .act, .nilCheck (.tmp 23)⟩,
    ⟨(some 25), none, .act, .fieldAddr 4 (.tmp 24)⟩,
    ⟨(some 26), none, .act, .load false 1 (.tmp 25)⟩,
    ⟨(some 27), none, .act, .mv (.tmp 6)⟩,
    ⟨(some 28), none, .act, .buildSl 1 [(.int .i64 0)] 1 [(0, (.tmp 27))]⟩,
    ⟨(some 29), none, .act, .append 1 8 [(.int .i64 0)] (.tmp 26) (.tmp 28)⟩,
    ⟨(some 30), none, .act, .nilCheck (.tmp 22)⟩,
    ⟨(some 31), none, .act, .fieldAddr 4 (.tmp 30)⟩,
    ⟨none, none, .act, .store 1 (.tmp 31) (.tmp 29)⟩])))))
theorem res49 : ∃ c, Try.f49.body = some c ∧ resCode Try.prog 32 c = some r49 := ⟨_, rfl, by kernel_rfl⟩
theorem rr49 : resRes Try.prog Try.f49.results.toList = some [] := by kernel_rfl
def r49e : RCode :=
  (.region [
    ⟨(some 22), none, .act, .mv (.tmp 1)⟩,
    ⟨(some 23), none, .act, .mv (.tmp 1)⟩,
    ⟨(some 24), none, .act, .nilCheck (.tmp 23)⟩,
    ⟨(some 25), none, .act, .fieldAddr 4 (.tmp 24)⟩,
    ⟨(some 26), none, .act, .load false 1 (.tmp 25)⟩,
    ⟨(some 27), none, .act, .mv (.tmp 6)⟩,
    ⟨(some 28), none, .act, .buildSl 1 [(.int .i64 0)] 1 [(0, (.tmp 27))]⟩,
    ⟨(some 29), none, .act, .append 1 8 [(.int .i64 0)] (.tmp 26) (.tmp 28)⟩,
    ⟨(some 30), none, .act, .nilCheck (.tmp 22)⟩,
    ⟨(some 31), none, .act, .fieldAddr 4 (.tmp 30)⟩,
    ⟨none, none, .act, .store 1 (.tmp 31) (.tmp 29)⟩])
theorem indexd_spec (hT : TOk T) (st : PS) (hi : st.i ≤ T.length) (tn : List UInt8) (cs : List Col) (hcs : cs.length ≤ 2000) (key : Int) (is : List Int) (his : is.length ≤ 1000) : ∃ (i : Int) (st' : PS), Goes T st st' ∧
    SC T fin 49 2 (fun c => crA tn (colsA cs .ro) key (intsA is c)) st (fun c => crA tn (colsA cs .ro) key (intsA (is ++ [i]) c)) st' := by
  have cat := at_spec (T := T) (fin := fin) st
  generalize atP T fin st = a at cat
  have cn := name_spec (fin := fin) hT st
  have g1 := goes_name (fin := fin) (st := st) hi
  generalize nameP T fin st = r at cn g1
  obtain ⟨nm, s1⟩ := r
  simp only at cn g1
  have cF := fun q h hq => colF_spec cs .ro hcs nm q h hq
  generalize colF nm cs = j at cF
  have app : ∀ (s2 : PS) (p q : Nat) (h₀ h : AHeap) (c : Cap), SAt T fin p q h₀ s2 c (crA tn (colsA cs .ro) key (intsA is c)) h →
      RRun Try.prog Try.f49 32 [.code r49e] (Env.get [(1, ptrAt q 2), (6, i64 j)]) h (SRes T fin p q h₀ s2 (fun c' => crA tn (colsA cs .ro) key (intsA (is ++ [j]) c'))) := by
    intro s2 p q h₀ h c ⟨hne, ⟨x0, hx0⟩, ⟨y0, hy0⟩, ho, hg, hp, hq⟩
    have nqp := Ne.symm hne
    unfold crA intsA at *
    unfold r49e
    repeat' (first | (refine S.op rfl ?_; first | refine R.mv rfl ?_ | refine R.fieldAddr rfl ?_ | refine R.nilCheck rfl ?_ | refine R.load (by decide) rfl (by (repeat' (first | assumption)); first | done | fail) rfl ?_ | refine R.buildSl rfl rfl rfl (by decide) ?_) | refine S.region ?_)
    refine S.op rfl (S.appO (h₀ := h₀) (ps := [p, q]) (ys := [[i64 j]]) rfl ho (ps_some hp hq) rfl rfl (.sl _ _) ?_ ?_ ?_ (fun c' h' ho' hk' hk2 => ?_))
    · intro e he a ha
      simp only [List.mem_singleton] at he
      subst he
      simp only [List.mem_cons, List.not_mem_nil, or_false] at ha
      rcases ha with rfl
      rfl
    · simp only [List.length_map, List.length_singleton]; omega
    · simp only [List.length_map, List.length_singleton]; omega
    have hp' := hk' p _ hp
    have hq' := hk' q _ hq
    have hg' := hg.kept hk2
    repeat' (first | refine S.nilK ?_ | (refine S.op rfl ?_; first | refine R.fieldAddr rfl ?_ | refine R.nilCheck rfl ?_) | (refine S.op0 rfl ?_; first | refine S.storeN rfl rfl (by (repeat' (first | assumption)); first | done | fail) rfl rfl rfl (by rfl) rfl (by repeat' (first | exact rfl)) ?_))
    apply S.done rr49
    case hx => repeat (first | exact ResAt.nil)
    refine ⟨c', ho'.set hy0 (by simp), hg'.setP hq', (by (repeat' (first | assumption | refine AHeap.so ?_ ?_)); first | done | fail), ?_⟩
    rw [AHeap.set_same]
    simp [over]
  by_cases hj : j < 0
  · have cf := fail_spec (T := T) (fin := fin) s1 a 200
    have g2 := goes_fail (T := T) (st := s1) g1.2.1 a 200
    generalize s1.fail a 200 = s2 at cf g2
    refine ⟨j, s2, g1.trans g2, ?_⟩
    intro p q h₀ h c hs
    obtain ⟨c', hc1, hc2⟩ := res49
    refine ACalls.enter Try.func49 hc1 Try.ntmps49 hc2 (Nat.le_of_ble_eq_true rfl) rfl ?_
    have hs2 := hs.pset (st' := s2)
    obtain ⟨hne, ⟨x0, hx0⟩, ⟨y0, hy0⟩, ho, hg, hp, hq⟩ := hs
    have nqp := Ne.symm hne
    unfold crA at hq
    repeat' (first | ((show RRun _ _ _ [.code r49e] _ _ _; exact S.keep [1, 6] rfl (app s2 p q h₀ _ c (hs2.loc (by (repeat' (first | exact AHeap.z1 ‹_› | refine AHeap.so ?_ ?_ | exact AHeap.n1 ‹_›)); first | done | fail))))) | refine S.nilK ?_ | (refine S.op rfl ?_; first | (show ROpS _ _ (.call 21 _) _ _ _; refine callPC0 rfl rfl cat (by repeat' (first | assumption)) (by (repeat' (first | assumption)); first | done | fail) ?_) | (show ROpS _ _ (.call 35 _) _ _ _; refine callPC rfl rfl cn (by repeat' (first | assumption)) (by (repeat' (first | assumption)); first | done | fail) (by repeat' (first | exact rfl)) ?_) | (show ROpS _ _ (.call 61 _) _ _ _; refine callN rfl rfl (cF _ _ (by (repeat' (first | exact AHeap.set_same _ _ _)); first | done | fail)) rfl ?_) | (show ROpS _ _ (.call 20 _) _ _ _; refine callPCU rfl rfl cf (by repeat' (first | assumption | refine Glob.setF ?_ (by (repeat' (first | assumption)); first | done | fail) | refine Glob.setP ?_ (by (repeat' (first | assumption)); first | done | fail))) (by (repeat' (first | exact AHeap.set_same _ _ _ | refine AHeap.get_fresh ‹_› ?_)); first | done | fail) (by repeat' (first | exact AHeap.set_set _ _ _ _ | (apply AHeap.upd1; · exact (by first | exact AHeap.n1 ‹_›)))) (fun x => ?_)) | refine R.mv rfl ?_ | refine R.fieldAddr rfl ?_ | refine R.nilCheck rfl ?_ | refine R.load (by decide) rfl (by (repeat' (first | assumption | refine AHeap.get_fresh ‹_› ?_ | refine AHeap.so ?_ ?_)); first | done | fail) rfl ?_ | refine R.alloc rfl (fun b hb => ?_) | refine R.makeFunc rfl rfl ?_ | ((first | refine S.lss rfl rfl ?_ ?_) <;> intro hlt <;> try (exfalso; omega))) | (refine S.op0 rfl ?_; first | refine S.storeN rfl rfl (by (repeat' (first | exact AHeap.set_same _ _ _)); first | done | fail) rfl rfl rfl (by rfl) rfl (by repeat' (first | exact AHeap.set_set _ _ _ _)) ?_) | refine S.seq ?_ | refine S.region ?_ | refine S.condT rfl ?_)
  · refine ⟨j, s1, g1, ?_⟩
    intro p q h₀ h c hs
    obtain ⟨c', hc1, hc2⟩ := res49
    refine ACalls.enter Try.func49 hc1 Try.ntmps49 hc2 (Nat.le_of_ble_eq_true rfl) rfl ?_
    have hs2 := hs.pset (st' := s1)
    obtain ⟨hne, ⟨x0, hx0⟩, ⟨y0, hy0⟩, ho, hg, hp, hq⟩ := hs
    have nqp := Ne.symm hne
    unfold crA at hq
    repeat' (first | ((show RRun _ _ _ [.code r49e] _ _ _; exact S.keep [1, 6] rfl (app s1 p q h₀ _ c (hs2.loc (by (repeat' (first | assumption)); first | done | fail))))) | refine S.nilK ?_ | (refine S.op rfl ?_; first | (show ROpS _ _ (.call 21 _) _ _ _; refine callPC0 rfl rfl cat (by repeat' (first | assumption)) (by (repeat' (first | assumption)); first | done | fail) ?_) | (show ROpS _ _ (.call 35 _) _ _ _; refine callPC rfl rfl cn (by repeat' (first | assumption)) (by (repeat' (first | assumption)); first | done | fail) (by repeat' (first | exact rfl)) ?_) | (show ROpS _ _ (.call 61 _) _ _ _; refine callN rfl rfl (cF _ _ (by (repeat' (first | exact AHeap.set_same _ _ _)); first | done | fail)) rfl ?_) | refine R.mv rfl ?_ | refine R.fieldAddr rfl ?_ | refine R.nilCheck rfl ?_ | refine R.load (by decide) rfl (by (repeat' (first | assumption | refine AHeap.get_fresh ‹_› ?_ | refine AHeap.so ?_ ?_)); first | done | fail) rfl ?_ | refine R.alloc rfl (fun b hb => ?_) | refine R.makeFunc rfl rfl ?_ | ((first | refine S.lss rfl rfl ?_ ?_) <;> intro hlt <;> try (exfalso; omega))) | (refine S.op0 rfl ?_; first | refine S.storeN rfl rfl (by (repeat' (first | exact AHeap.set_same _ _ _)); first | done | fail) rfl rfl rfl (by rfl) rfl (by repeat' (first | exact AHeap.set_set _ _ _ _)) ?_) | refine S.seq ?_ | refine S.region ?_ | refine S.condF rfl ?_ | refine RRun.skip ?_)
end
end Go.Proofs.Ytdinnoejipmiiaa

namespace Go.Proofs.Ytdinnoejipmiiaa
open Go.Av
open Go.Av.Pa (PS atP isP wrongP takeP needP kindP nameP opsP operatorP enterP ev exprP expressionP)
def rowsA (l : List (List Pa.Ex)) (c : Cap) : AV := .sl 1 (l.map fun r => [exs r]) c
def setA (x : List UInt8 × Pa.Ex) : List AV := str x.1 :: x.2.cells
def setsA (l : List (List UInt8 × Pa.Ex)) (c : Cap) : AV := .sl 9 (l.map setA) c
structure St where
  kind : Int
  nm : List UInt8
  x2 : Int
  tn : List UInt8
  cols : List Col
  key : Int
  idx : List Int
  vals : List (List Pa.Ex)
  sets : List (List UInt8 × Pa.Ex)
  star : Bool
  lst : List Pa.Ex
  frm : List UInt8
  to : List UInt8
  on : List Pa.Ex
  wh : List Pa.Ex
  grp : List Pa.Ex
  ord : List (Int × Bool)
  lim : Int
  up : Bool
  lvl : Int
def St.cells (x : St) : List AV := [i64 x.kind, str x.nm, i64 x.x2, str x.tn, colsA x.cols .ro, i64 x.key, intsA x.idx .ro, rowsA x.vals .ro, setsA x.sets .ro, bl x.star, exs x.lst, str x.frm, str x.to, exs x.on, exs x.wh, exs x.grp, bysA x.ord .ro, i64 x.lim, bl x.up, i64 x.lvl]
def IsSt (S : List AV) : Prop := ∃ x : St, ALes S x.cells
def IsB (a : AV) : Prop := ∃ x, ALe a (bl x)
def IsS (a : AV) : Prop := ∃ x, ALe a (str x)
def IsI (a : AV) : Prop := ∃ x, ALe a (i64 x)
def IsE (a : AV) : Prop := ∃ x, ALe a (exs x)
def IsO (a : AV) : Prop := ∃ x, ALe a (bysA x .ro)
def IsX (a : AV) : Prop := ∃ x, ALe a (intsA x .ro)
theorem nil_cols : ALe nilA (colsA [] .ro) := (ALe.nilSl 3 (c := .full) trivial).trans (.toRo _ _ _)
theorem nil_ints : ALe nilA (intsA [] .ro) := (ALe.nilSl 1 (c := .full) trivial).trans (.toRo _ _ _)
theorem nil_rows : ALe nilA (rowsA [] .ro) := (ALe.nilSl 1 (c := .full) trivial).trans (.toRo _ _ _)
theorem nil_sets : ALe nilA (setsA [] .ro) := (ALe.nilSl 9 (c := .full) trivial).trans (.toRo _ _ _)
theorem nil_bys : ALe nilA (bysA [] .ro) := (ALe.nilSl 2 (c := .full) trivial).trans (.toRo _ _ _)
theorem isSt_of {k x2 key lvl : Int} {nm tn : List UInt8} {a b c d e f g i j l m o p : AV} {cols : List Col} {idx : List Int} {vals : List (List Pa.Ex)} {sets : List (List UInt8 × Pa.Ex)}
    (h1 : ALe a (colsA cols .ro)) (h2 : ALe b (intsA idx .ro)) (h3 : ALe c (rowsA vals .ro)) (h4 : ALe d (setsA sets .ro)) (h5 : IsB e) (h6 : IsE f) (h7 : IsS g) (h8 : IsS i) (h9 : IsE j) (h10 : IsE l) (h11 : IsE m) (h12 : IsO o) (h13 : IsI p) {u : AV} (h14 : IsB u) :
    IsSt [i64 k, str nm, i64 x2, str tn, a, i64 key, b, c, d, e, f, g, i, j, l, m, o, p, u, i64 lvl] := by
  obtain ⟨y5, h5⟩ := h5
  obtain ⟨y6, h6⟩ := h6
  obtain ⟨y7, h7⟩ := h7
  obtain ⟨y8, h8⟩ := h8
  obtain ⟨y9, h9⟩ := h9
  obtain ⟨y10, h10⟩ := h10
  obtain ⟨y11, h11⟩ := h11
  obtain ⟨y12, h12⟩ := h12
  obtain ⟨y13, h13⟩ := h13
  obtain ⟨y14, h14⟩ := h14
  exact ⟨⟨k, nm, x2, tn, cols, key, idx, vals, sets, y5, y6, y7, y8, y9, y10, y11, y12, y13, y14, lvl⟩, .cons (.refl _) (.cons (.refl _) (.cons (.refl _) (.cons (.refl _) (.cons h1 (.cons (.refl _) (.cons h2 (.cons h3 (.cons h4 (.cons h5 (.cons h6 (.cons h7 (.cons h8 (.cons h9 (.cons h10 (.cons h11 (.cons h12 (.cons h13 (.cons h14 (.cons (.refl _) .nil)))))))))))))))))))⟩
theorem IsE.nil : IsE nilA := ⟨[], nil_le⟩
theorem IsO.nil : IsO nilA := ⟨[], nil_bys⟩
theorem IsX.nil : IsX nilA := ⟨[], nil_ints⟩
theorem IsE.of (l : List Pa.Ex) : IsE (exs l) := ⟨l, .refl _⟩
theorem IsS.of (s : List UInt8) : IsS (str s) := ⟨s, .refl _⟩
theorem IsI.of (n : Int) : IsI (i64 n) := ⟨n, .refl _⟩
theorem IsB.of (b : Bool) : IsB (bl b) := ⟨b, .refl _⟩
section
variable {T : List Tok} {fin : Int}
theorem SAt.sub {p q : Nat} {h₀ h : AHeap} {st : PS} {c : Cap} {A A' : List AV} (hs : SAt T fin p q h₀ st c A h) (hg0 : Glob h₀) (hA : ALes A A') :
    ((h₀.set p (.box (pst T fin st))).set q (.box A')).le h ∧ SAt T fin p q h₀ st .full A' ((h₀.set p (.box (pst T fin st))).set q (.box A')) := by
  obtain ⟨hne, ⟨x0, hx0⟩, ⟨y0, hy0⟩, ho, hg, hp, hq⟩ := hs
  obtain ⟨o, m, h0, hc⟩ := hg
  obtain ⟨o', m', h0', hc'⟩ := hg0
  have np : 0 ≠ p := fun e => by rw [← e, h0] at hp; cases hp
  have nq : 0 ≠ q := fun e => by rw [← e, h0] at hq; cases hq
  refine ⟨fun x y e => ?_, hne, ⟨x0, hx0⟩, ⟨y0, hy0⟩, ⟨.inl rfl, fun x ⟨u, s, e⟩ => (by cases e), fun x o2 e hm => ?_⟩, ⟨o', m', ?_, hc'⟩, ?_, AHeap.set_same _ _ _⟩
  · by_cases e1 : x = q
    · subst e1; rw [AHeap.set_same] at e; cases e; exact ⟨_, hq, .box hA⟩
    · rw [AHeap.set_other _ _ e1] at e
      by_cases e2 : x = p
      · subst e2; rw [AHeap.set_same] at e; cases e; exact ⟨_, hp, .refl _⟩
      · rw [AHeap.set_other _ _ e2] at e
        exact ⟨y, ho.fr x y e (by simp [e1, e2]), .refl _⟩
  · simp only [List.mem_cons, List.not_mem_nil, or_false, not_or] at hm
    rw [AHeap.set_other _ _ hm.2, AHeap.set_other _ _ hm.1]; exact e
  · rw [AHeap.set_other _ _ nq, AHeap.set_other _ _ np]; exact h0'
  · rw [AHeap.set_other _ _ hne, AHeap.set_same]
abbrev SP (T : List Tok) (fin : Int) (f : FuncId) (S : List AV) (st : PS) (S' : List AV) (st' : PS) : Prop :=
  ∀ (p q : Nat) (h : AHeap), p ≠ q → Glob h → h p = some (.box (pst T fin st)) → h q = some (.box S) → ACalls Try.prog f [ptr p, ptr q] h (fun _ h' => h' = (h.set p (.box (pst T fin st'))).set q (.box S'))
def zeroS : List AV := [i64 0, str [], i64 0, str [], nilA, i64 0, nilA, nilA, nilA, bl false, nilA, str [], str [], nilA, nilA, nilA, nilA, i64 (-1), bl false, i64 0]
def r31l0 : RCode :=
  (.seq (.seq (.region [
    ⟨(some 28), none, .act, .mv (.tmp 0)⟩,
    ⟨(some 29), none, .act, .call 30 [(.tmp 28), (.const (.string ⟨#[44]⟩))]⟩])
  (.cond (.tmp 29)
   .skip
   (.exit 0)))
  (.block 1
   (.seq (.seq (.region [
     ⟨(some 30), none, .act, .mv (.tmp 4)⟩,
     ⟨(some 31), none, .act, .nilCheck (.tmp 30)⟩,
     ⟨(some 32), none, .act, .fieldAddr 4 (.tmp 31)⟩,
     ⟨(some 33), none, .act, .load false 1 (.tmp 32)⟩,
     ⟨(some 34), none, .act, .len (.tmp 33)⟩,
     ⟨(some 35), none, .act, .eq false .int (.tmp 34) (.const (.int .i64 0))⟩,
     ⟨(some 36), none, .act, .mv (.tmp 35)⟩,
     ⟨(some 37), (some (36, true)), .act, .mv (.tmp 0)⟩,
     ⟨(some 38), (some (36, true)), .act, .call 47 [(.tmp 37), (.const (.string ⟨#[105, 110, 100, 101, 120]⟩))]⟩,
     ⟨(some 39), (some (36, true)), .act, .un .not (.tmp 38)⟩,
     ⟨(some 40), none, .act, .pick (.tmp 36) (.tmp 39) (.const (.bool false))⟩])
   (.cond (.tmp 40)
    (.seq (.region [
      ⟨(some 41), none, .act, .mv (.tmp 0)⟩,
      ⟨(some 42), none, .act, .mv (.tmp 4)⟩,
      ⟨(some 43), none, .act, .call 48 [(.tmp 41), (.tmp 42)]⟩])
    (.exit 1))
    .skip))
   (.seq (.region [
     ⟨(some 44), none, .act, .mv (.tmp 0)⟩,
     ⟨(some 45), none, .act, .buildSl 1 [(.string ⟨#[]⟩)] 2 [(0, (.const (.string ⟨#[105, 110, 100, 101, 120]⟩))), (1, (.const (.string ⟨#[40]⟩)))]⟩,
     ⟨(some 46), none, .act, .call 34 [(.tmp 44), (.tmp 45)]⟩])
   (.seq (.region [
     ⟨(some 47), none, .act, .mv (.tmp 0)⟩,
     ⟨(some 48), none, .act, .mv (.tmp 4)⟩,
     ⟨(some 49), none, .act, .call 49 [(.tmp 47), (.tmp 48)]⟩])
   (.region [
     ⟨(some 50), none, .act, .mv (.tmp 0)⟩,
     ⟨(some 51), none, .act, .buildSl 1 [(.string ⟨#[]⟩)] 1 [(0, (.const (.string ⟨#[41]⟩)))]⟩,
     ⟨(some 52), none, .act, .call 34 [(.tmp 50), (.tmp 51)]⟩]))))))
def r31 : RCode :=
  (.seq (.region [
    ⟨(some 5), none, .act, .mv (.tmp 1)⟩,
    ⟨(some 6), none, .act, .nilCheck (.tmp 5)⟩,
    ⟨(some 7), none, .act, .fieldAddr 0 (.tmp 6)⟩,
    ⟨none, none, .act, .store 1 (.tmp 7) (.const (.int .i64 1))⟩])
  (.seq (.region [
    ⟨(some 8), none, .act, .mv (.tmp 0)⟩,
    ⟨(some 9), none, .act, .buildSl 1 [(.string ⟨#[]⟩)] 1 [(0, (.const (.string ⟨#[116, 97, 98, 108, 101]⟩)))]⟩,
    ⟨(some 10), none, .act, .call 34 [(.tmp 8), (.tmp 9)]⟩])
  (.seq (.region [
    ⟨(some 11), none, .act, .mv (.tmp 1)⟩,
    ⟨(some 12), none, .act, .nilCheck (.tmp 11)⟩,
    ⟨(some 13), none, .act, .fieldAddr 2 (.tmp 12)⟩,
    ⟨(some 4), none, .act, .mv (.tmp 13)⟩])
  (.seq (.region [
    ⟨(some 14), none, .act, .mv (.tmp 4)⟩,
    ⟨(some 15), none, .act, .mv (.tmp 4)⟩,
    ⟨(some 16), none, .act, .mv (.tmp 0)⟩,
    ⟨(some 17), none, .act, .call 35 [(.tmp 16)]⟩,
    ⟨(some 18), none, .act, .nilCheck (.tmp 14)⟩,
    ⟨(some 19), none, .act, .fieldAddr 1 (.tmp 18)⟩,
    ⟨none, none, .act, .store 1 (.tmp 19) (.tmp 17)⟩,
    ⟨(some 20), none, .act, .nilCheck (.tmp 15)⟩,
    ⟨(some 21), none, .act, .fieldAddr 3 (.tmp 20)⟩,
    ⟨none, none, .act, .store 1 (.tmp 21) (.const (.int .i64 (-1)))⟩])
  (.seq (.region [
    ⟨(some 22), none, .act, .mv (.tmp 0)⟩,
    ⟨(some 23), none, .act, .buildSl 1 [(.string ⟨#[]⟩)] 1 [(0, (.const (.string ⟨#[40]⟩)))]⟩,
    ⟨(some 24), none, .act, .call 34 [(.tmp 22), (.tmp 23)]⟩])
  (.seq (.region [
    ⟨(some 25), none, .act, .mv (.tmp 0)⟩,
    ⟨(some 26), none, .act, .mv (.tmp 4)⟩,
    ⟨(some 27), none, .act, .call 48 [(.tmp 25), (.tmp 26)]⟩])
  (.seq .skip
  (.seq (.block 0
   (.loop r31l0))
  (.seq (.region [
    ⟨(some 53), none, .act, .mv (.tmp 0)⟩,
    ⟨(some 54), none, .act, .buildSl 1 [(.string ⟨#[]⟩)] 1 [(0, (.const (.string ⟨#[41]⟩)))]⟩,
    ⟨(some 55), none, .act, .call 34 [(.tmp 53), (.tmp 54)]⟩])
  (.seq (.region [
    ⟨(some 56), none, .pure, .mv (.tmp 4)⟩,
    ⟨(some 57), none, .pure, .nilCheck (.tmp 56)⟩,
    ⟨(some 58), none, .pure, .fieldAddr 3 (.tmp 57)⟩,
    ⟨(some 59), none, .read, .load false 1 (.tmp 58)⟩,
    ⟨(some 60), none, .pure, .bin .lss (.tmp 59) (.const (.int .i64 0))⟩,
    ⟨(some 61), none, .pure, .mv (.tmp 60)⟩,
    ⟨(some 62), (some (61, true)), .pure, .mv (.tmp 0)⟩,
    ⟨(some 63), (some (61, true)), .pure, .nilCheck (.tmp 62)⟩,
    ⟨(some 64), (some (61, true)), .pure, .fieldAddr 1 (.tmp 63)⟩,
    ⟨(some 65), (some (61, true)), .read, .load false 1 (.tmp 64)⟩,
    ⟨(some 66), (some (61, true)), .pure, .mv (.tmp 0)⟩,
    ⟨(some 67), (some (61, true)), .pure, .nilCheck (.tmp 66)⟩,
    ⟨(some 68), (some (61, true)), .pure, .fieldAddr 0 (.tmp 67)⟩,
    ⟨(some 69), (some (61, true)), .read, .load false 1 (.tmp 68)⟩,
    ⟨(some 70), (some (61, true)), .pure, .len (.tmp 69)⟩,
    ⟨(some 71), (some (61, true)), .pure, .eq false .int (.tmp 65) (.tmp 70)⟩,
    ⟨(some 72), none, .pure, .pick (.tmp 61) (.tmp 71) (.const (.bool false))⟩])
  (.cond (.tmp 72)
   (.region [
     ⟨(some 73), none, .act, .mv (.tmp 0)⟩,
     ⟨(some 74), none, .act, .call 13 [(.tmp 73)]⟩])
   .skip)))))))))))
theorem res31 : ∃ c, Try.f31.body = some c ∧ resCode Try.prog 75 c = some r31 := ⟨_, rfl, by kernel_rfl⟩
theorem rr31 : resRes Try.prog Try.f31.results.toList = some [] := by kernel_rfl
def r31i : RCode :=
  (.seq (.region [
     ⟨(some 47), none, .act, .mv (.tmp 0)⟩,
     ⟨(some 48), none, .act, .mv (.tmp 4)⟩,
     ⟨(some 49), none, .act, .call 49 [(.tmp 47), (.tmp 48)]⟩])
   (.region [
     ⟨(some 50), none, .act, .mv (.tmp 0)⟩,
     ⟨(some 51), none, .act, .buildSl 1 [(.string ⟨#[]⟩)] 1 [(0, (.const (.string ⟨#[41]⟩)))]⟩,
     ⟨(some 52), none, .act, .call 34 [(.tmp 50), (.tmp 51)]⟩]))
theorem cr_idx (hT : TOk T) (tn : List UInt8) (cs : List Col) (hcs : cs.length ≤ 1000) (key : Int) : ∀ (m : Nat) (st : PS), T.length - st.i < m → st.i ≤ T.length → ∀ (is : List Int), is ≠ [] → is.length + (T.length - st.i) ≤ 1000 → ∃ (is2 : List Int) (st2 : PS), Goes T st st2 ∧
    ∀ (p q : Nat) (h₀ h : AHeap) (c : Cap) (k : List RT) (Q : AV → AHeap → Prop), SAt T fin p q h₀ st c (crA tn (colsA cs .ro) key (intsA is c)) h →
      (∀ h' c', SAt T fin p q h₀ st2 c' (crA tn (colsA cs .ro) key (intsA is2 c')) h' → RRun Try.prog Try.f31 75 k (Env.get [(0, ptr p), (1, ptr q), (4, ptrAt q 2)]) h' Q) →
      RRun Try.prog Try.f31 75 (.inLoop r31l0 :: .inBlock 0 :: k) (Env.get [(0, ptr p), (1, ptr q), (4, ptrAt q 2)]) h Q := by
  intro m
  induction m with
  | zero => intro st h0; omega
  | succ m ih =>
    intro st hm hi is hne his
    rcases take_cases (fin := fin) hT.len st [44] with ⟨e, hlt, ct⟩ | ⟨e, ct⟩
    · clear e
      have cn := need_spec (T := T) (fin := fin) hT.len [[105, 110, 100, 101, 120], [40]] (by decide) .full st.next
      have g1 := goes_need (fin := fin) (st := st.next) hlt [[105, 110, 100, 101, 120], [40]]
      generalize needP T fin st.next [[105, 110, 100, 101, 120], [40]] = s1 at cn g1
      obtain ⟨i, s2, g2, ci⟩ := indexd_spec (fin := fin) hT s1 g1.2.1 tn cs (by omega) key is (by omega)
      have ce := need_spec (T := T) (fin := fin) hT.len [[41]] (by decide) .full s2
      have g3 := goes_need (fin := fin) (st := s2) g2.2.1 [[41]]
      generalize needP T fin s2 [[41]] = s3 at ce g3
      have gg := g1.trans (g2.trans g3)
      have h1 := gg.1
      have h2 := gg.2.1
      have h3 : st.next.i = st.i + 1 := rfl
      obtain ⟨is2, s4, g4, H⟩ := ih s3 (by omega) g3.2.1 (is ++ [i]) (by simp) (by simp only [List.length_append, List.length_singleton]; omega)
      refine ⟨is2, s4, (Goes.next hlt).trans (gg.trans g4), ?_⟩
      intro p q h₀ h c k Q hs hk
      have hs1 := hs.pset (st' := s1)
      have hi0 : ¬ ((is.map fun i => [i64 i]).length : Int) = 0 := by
        rw [List.length_map]
        have := List.length_pos_iff.2 hne
        omega
      obtain ⟨hpq, ⟨x0, hx0⟩, ⟨y0, hy0⟩, ho, hg, hp, hq⟩ := hs
      have hqp := Ne.symm hpq
      unfold crA intsA at hq
      refine RRun.inLoop ?_
      repeat' (first | refine S.nilK ?_ | (refine S.op rfl ?_; first | (show ROpS _ _ (.call 30 _) _ _ _; refine callPC rfl rfl ct (by repeat' (first | assumption)) (by (repeat' (first | assumption)); first | done | fail) (by repeat' (first | exact rfl)) ?_) | (show ROpS _ _ (.call 34 _) _ _ _; refine callPCU rfl rfl cn (by repeat' (first | assumption | refine Glob.setP ?_ (by (repeat' (first | assumption)); first | done | fail))) (by (repeat' (first | exact AHeap.set_same _ _ _)); first | done | fail) (by repeat' (first | exact AHeap.set_set _ _ _ _)) (fun x => ?_)) | refine R.mv rfl ?_ | refine R.fieldAddr rfl ?_ | refine R.nilCheck rfl ?_ | refine R.load (by decide) rfl (by (repeat' (first | assumption | refine AHeap.so ?_ ?_)); first | done | fail) rfl ?_ | refine R.pickF rfl rfl ?_ | refine R.len rfl ?_ | refine R.buildSl rfl rfl rfl (by decide) ?_ | ((first | refine S.eqInt rfl rfl ?_ ?_) <;> intro hlt <;> try (exfalso; omega))) | refine S.skip rfl ?_ | refine S.seq ?_ | refine S.region ?_ | refine S.condT rfl ?_ | refine S.condF rfl ?_ | refine RRun.skip ?_ | refine RRun.block ?_)
      refine S.op rfl (R.call rfl rfl ((ci p q h₀ _ c hs1).mono fun _ h' hres => ?_))
      obtain ⟨c', ho', hg', hp', hq'⟩ := hres
      have hs2 : SAt T fin p q h₀ s2 c' (crA tn (colsA cs .ro) key (intsA (is ++ [i]) c')) h' := ⟨hpq, ⟨x0, hx0⟩, ⟨y0, hy0⟩, ho', hg', hp', hq'⟩
      have hs3 := hs2.pset (st' := s3)
      repeat' (first | refine S.nilK ?_ | (refine S.op rfl ?_; first | (show ROpS _ _ (.call 34 _) _ _ _; refine callPCU rfl rfl ce (by repeat' (first | assumption)) (by (repeat' (first | assumption)); first | done | fail) (by repeat' (first | exact rfl)) (fun x => ?_)) | refine R.mv rfl ?_ | refine R.buildSl rfl rfl rfl (by decide) ?_) | refine S.region ?_ | refine RRun.inBlock ?_)
      exact S.keep [0, 1, 4] rfl (H p q h₀ _ c' k Q hs3 hk)
    · clear e
      refine ⟨is, st, Goes.refl hi, ?_⟩
      intro p q h₀ h c k Q hs hk
      have hk := hk h c hs
      obtain ⟨hpq, ⟨x0, hx0⟩, ⟨y0, hy0⟩, ho, hg, hp, hq⟩ := hs
      have hqp := Ne.symm hpq
      refine RRun.inLoop ?_
      repeat' (first | refine S.nilK ?_ | (refine S.op rfl ?_; first | (show ROpS _ _ (.call 30 _) _ _ _; refine callPC0 rfl rfl ct (by repeat' (first | assumption)) (by (repeat' (first | assumption)); first | done | fail) ?_) | refine R.mv rfl ?_) | refine S.seq ?_ | refine S.region ?_ | refine S.condF rfl ?_ | refine RRun.exit rfl ?_)
      exact S.keep [0, 1, 4] rfl hk
theorem cr_loop (hT : TOk T) (tn : List UInt8) : ∀ (m : Nat) (st : PS), T.length - st.i < m → st.i ≤ T.length → ∀ (cs : List Col) (key : Int), cs.length + (T.length - st.i) ≤ 1000 → ∃ (cs2 : List Col) (key2 : Int) (idx2 : AV) (st2 : PS), idx2.one = true ∧ IsX idx2 ∧ Goes T st st2 ∧
    ∀ (p q : Nat) (h₀ h : AHeap) (c : Cap) (k : List RT) (Q : AV → AHeap → Prop), Glob h₀ → SAt T fin p q h₀ st c (crA tn (colsA cs c) key nilA) h →
      (∀ h', SAt T fin p q h₀ st2 .full (crA tn (colsA cs2 .ro) key2 idx2) h' → RRun Try.prog Try.f31 75 k (Env.get [(0, ptr p), (1, ptr q), (4, ptrAt q 2)]) h' Q) →
      RRun Try.prog Try.f31 75 (.inLoop r31l0 :: .inBlock 0 :: k) (Env.get [(0, ptr p), (1, ptr q), (4, ptrAt q 2)]) h Q := by
  intro m
  induction m with
  | zero => intro st h0; omega
  | succ m ih =>
    intro st hm hi cs key hcs
    rcases take_cases (fin := fin) hT.len st [44] with ⟨e, hlt, ct⟩ | ⟨e, ct⟩
    · clear e
      have h3 : st.next.i = st.i + 1 := rfl
      have cis := is_spec (T := T) (fin := fin) st.next [105, 110, 100, 101, 120]
      generalize isP T st.next [105, 110, 100, 101, 120] = b at cis
      cases b with
      | false =>
        obtain ⟨x, key', s2, g2, cc⟩ := col_spec (fin := fin) hT st.next hlt tn nilA cs (by omega) key
        have h1 := g2.1
        have h2 := g2.2.1
        obtain ⟨cs2, key2, idx2, s4, o4, x4, g4, H⟩ := ih s2 (by omega) g2.2.1 (cs ++ [x]) key' (by simp only [List.length_append, List.length_singleton]; omega)
        refine ⟨cs2, key2, idx2, s4, o4, x4, (Goes.next hlt).trans (g2.trans g4), ?_⟩
        intro p q h₀ h c k Q hg0 hs hk
        have hs1 := hs.pset (st' := st.next)
        obtain ⟨hpq, ⟨x0, hx0⟩, ⟨y0, hy0⟩, ho, hg, hp, hq⟩ := hs
        have hqp := Ne.symm hpq
        unfold crA nilA at hq
        refine RRun.inLoop ?_
        repeat' (first | refine S.nilK ?_ | (refine S.op rfl ?_; first | (show ROpS _ _ (.call 30 _) _ _ _; refine callPC rfl rfl ct (by repeat' (first | assumption)) (by (repeat' (first | assumption)); first | done | fail) (by repeat' (first | exact rfl)) ?_) | (show ROpS _ _ (.call 47 _) _ _ _; refine callPC0 rfl rfl cis (by repeat' (first | assumption | refine Glob.setP ?_ (by (repeat' (first | assumption)); first | done | fail))) (by (repeat' (first | exact AHeap.set_same _ _ _)); first | done | fail) ?_) | refine R.mv rfl ?_ | refine R.fieldAddr rfl ?_ | refine R.nilCheck rfl ?_ | refine R.load (by decide) rfl (by (repeat' (first | assumption | refine AHeap.so ?_ ?_)); first | done | fail) rfl ?_ | refine R.pickT rfl rfl ?_ | refine R.lenA rfl ?_ | refine R.not rfl ?_ | ((first | refine S.eqInt rfl rfl ?_ ?_) <;> intro hlt <;> try (exfalso; omega))) | refine S.seq ?_ | refine S.region ?_ | refine S.condT rfl ?_ | refine RRun.skip ?_ | refine RRun.block ?_)
        refine S.op rfl (R.call rfl rfl ((cc p q h₀ _ c hs1).mono fun _ h' hres => ?_))
        obtain ⟨c', ho', hg', hp', hq'⟩ := hres
        have hs2 : SAt T fin p q h₀ s2 c' (crA tn (colsA (cs ++ [x]) c') key' nilA) h' := ⟨hpq, ⟨x0, hx0⟩, ⟨y0, hy0⟩, ho', hg', hp', hq'⟩
        repeat' (first | refine S.nilK ?_ | refine RRun.exit rfl ?_)
        exact S.keep [0, 1, 4] rfl (H p q h₀ _ c' k Q hg0 hs2 hk)
      | true =>
        have cn := need_spec (T := T) (fin := fin) hT.len [[105, 110, 100, 101, 120], [40]] (by decide) .full st.next
        have g1 := goes_need (fin := fin) (st := st.next) hlt [[105, 110, 100, 101, 120], [40]]
        generalize needP T fin st.next [[105, 110, 100, 101, 120], [40]] = s1 at cn g1
        obtain ⟨i, s2, g2, ci⟩ := indexd_spec (fin := fin) hT s1 g1.2.1 tn cs (by omega) key [] (by decide)
        have ce := need_spec (T := T) (fin := fin) hT.len [[41]] (by decide) .full s2
        have g3 := goes_need (fin := fin) (st := s2) g2.2.1 [[41]]
        generalize needP T fin s2 [[41]] = s3 at ce g3
        have gg := g1.trans (g2.trans g3)
        have h1 := gg.1
        have h2 := gg.2.1
        have hl4 := hT.len
        obtain ⟨is2, s4, g4, H⟩ := cr_idx (fin := fin) hT tn cs (by omega) key (T.length - s3.i + 1) s3 (by omega) g3.2.1 ([] ++ [i]) (by simp) (by simp only [List.length_append, List.length_singleton, List.length_nil]; omega)
        refine ⟨cs, key, intsA is2 .ro, s4, rfl, ⟨is2, .refl _⟩, (Goes.next hlt).trans (gg.trans g4), ?_⟩
        intro p q h₀ h c k Q hg0 hs hk
        obtain ⟨hle, hs0⟩ := (hs.pset (st' := s1)).sub hg0 (A' := crA tn (colsA cs .ro) key (intsA [] .full)) (.cons (.refl _) (.cons (.refl _) (.cons (.refl _) (.cons (.refl _) (.cons (.toRo _ _ _) (.cons (.refl _) (.cons (.nilSl 1 (c := .full) trivial) (.refl _))))))))
        obtain ⟨hpq, ⟨x0, hx0⟩, ⟨y0, hy0⟩, ho, hg, hp, hq⟩ := hs
        have hqp := Ne.symm hpq
        unfold crA nilA at hq
        refine RRun.inLoop ?_
        repeat' (first | ((show RRun _ _ _ (.code r31i :: _) _ _ _; refine RRun.sub hle ?_)) | refine S.nilK ?_ | (refine S.op rfl ?_; first | (show ROpS _ _ (.call 30 _) _ _ _; refine callPC rfl rfl ct (by repeat' (first | assumption)) (by (repeat' (first | assumption)); first | done | fail) (by repeat' (first | exact rfl)) ?_) | (show ROpS _ _ (.call 47 _) _ _ _; refine callPC0 rfl rfl cis (by repeat' (first | assumption | refine Glob.setP ?_ (by (repeat' (first | assumption)); first | done | fail))) (by (repeat' (first | exact AHeap.set_same _ _ _)); first | done | fail) ?_) | (show ROpS _ _ (.call 34 _) _ _ _; refine callPCU rfl rfl cn (by repeat' (first | assumption | refine Glob.setP ?_ (by (repeat' (first | assumption)); first | done | fail))) (by (repeat' (first | exact AHeap.set_same _ _ _)); first | done | fail) (by repeat' (first | exact AHeap.set_set _ _ _ _)) (fun x => ?_)) | refine R.mv rfl ?_ | refine R.fieldAddr rfl ?_ | refine R.nilCheck rfl ?_ | refine R.load (by decide) rfl (by (repeat' (first | assumption | refine AHeap.so ?_ ?_)); first | done | fail) rfl ?_ | refine R.pickT rfl rfl ?_ | refine R.lenA rfl ?_ | refine R.not rfl ?_ | refine R.buildSl rfl rfl rfl (by decide) ?_ | ((first | refine S.eqInt rfl rfl ?_ ?_) <;> intro hlt <;> try (exfalso; omega))) | refine S.seq ?_ | refine S.region ?_ | refine S.condT rfl ?_ | refine S.condF rfl ?_ | refine RRun.skip ?_ | refine RRun.block ?_)
        refine S.op rfl (R.call rfl rfl ((ci p q h₀ _ .full hs0).mono fun _ h' hres => ?_))
        obtain ⟨c', ho', hg', hp', hq'⟩ := hres
        have hs2 : SAt T fin p q h₀ s2 c' (crA tn (colsA cs .ro) key (intsA ([] ++ [i]) c')) h' := ⟨hpq, ⟨x0, hx0⟩, ⟨y0, hy0⟩, ho', hg', hp', hq'⟩
        have hs3 := hs2.pset (st' := s3)
        repeat' (first | refine S.nilK ?_ | (refine S.op rfl ?_; first | (show ROpS _ _ (.call 34 _) _ _ _; refine callPCU rfl rfl ce (by repeat' (first | assumption)) (by (repeat' (first | assumption)); first | done | fail) (by repeat' (first | exact rfl)) (fun x => ?_)) | refine R.mv rfl ?_ | refine R.buildSl rfl rfl rfl (by decide) ?_) | refine S.region ?_ | refine RRun.inBlock ?_)
        refine S.keep [0, 1, 4] rfl (H p q h₀ _ c' k Q hs3 fun h2 c2 hs4 => ?_)
        obtain ⟨hle2, hs5⟩ := hs4.sub hg0 (A' := crA tn (colsA cs .ro) key (intsA is2 .ro)) (.cons (.refl _) (.cons (.refl _) (.cons (.refl _) (.cons (.refl _) (.cons (.refl _) (.cons (.refl _) (.cons (.toRo _ _ _) (.refl _))))))))
        exact RRun.sub hle2 (hk _ hs5)
    · clear e
      refine ⟨cs, key, nilA, st, rfl, IsX.nil, Goes.refl hi, ?_⟩
      intro p q h₀ h c k Q hg0 hs hk
      obtain ⟨hle, hs0⟩ := hs.sub hg0 (A' := crA tn (colsA cs .ro) key nilA) (.cons (.refl _) (.cons (.refl _) (.cons (.refl _) (.cons (.refl _) (.cons (.toRo _ _ _) (.refl _))))))
      have hk := hk _ hs0
      obtain ⟨hpq, ⟨x0, hx0⟩, ⟨y0, hy0⟩, ho, hg, hp, hq⟩ := hs
      have hqp := Ne.symm hpq
      refine RRun.inLoop ?_
      repeat' (first | refine S.nilK ?_ | (refine S.op rfl ?_; first | (show ROpS _ _ (.call 30 _) _ _ _; refine callPC0 rfl rfl ct (by repeat' (first | assumption)) (by (repeat' (first | assumption)); first | done | fail) ?_) | refine R.mv rfl ?_) | refine S.seq ?_ | refine S.region ?_ | refine S.condF rfl ?_ | refine RRun.exit rfl ?_)
      exact S.keep [0, 1, 4] rfl (RRun.sub hle hk)
end
end Go.Proofs.Ytdinnoejipmiiaa

namespace Go.Proofs.Ytdinnoejipmiiaa
open Go.Av
open Go.Av.Pa (PS atP isP wrongP takeP needP kindP nameP opsP operatorP enterP ev exprP expressionP)
theorem ACalls.subC {P : Program} {f : FuncId} {args : List AV} {h h' : AHeap} {K : AV → AHeap → Prop} (hle : h'.le h) (hc : ACalls P f args h' K) : ACalls P f args h K := fun vs w h1 h2 => by
  obtain ⟨r1, r2⟩ := h2.sub hle
  exact (hc vs w (h1.mono r2.stab) r1).mono fun e w' ⟨u, x, h'', e1, k, e3, e4, e5⟩ => ⟨u, x, h'', e1, k, e3, e4, r2.trans e5⟩
section
variable {T : List Tok} {fin : Int}
def r31y : RCode :=
  (.seq (.region [
    ⟨(some 56), none, .pure, .mv (.tmp 4)⟩,
    ⟨(some 57), none, .pure, .nilCheck (.tmp 56)⟩,
    ⟨(some 58), none, .pure, .fieldAddr 3 (.tmp 57)⟩,
    ⟨(some 59), none, .read, .load false 1 (.tmp 58)⟩,
    ⟨(some 60), none, .pure, .bin .lss (.tmp 59) (.const (.int .i64 0))⟩,
    ⟨(some 61), none, .pure, .mv (.tmp 60)⟩,
    ⟨(some 62), (some (61, true)), .pure, .mv (.tmp 0)⟩,
    ⟨(some 63), (some (61, true)), .pure, .nilCheck (.tmp 62)⟩,
    ⟨(some 64), (some (61, true)), .pure, .fieldAddr 1 (.tmp 63)⟩,
    ⟨(some 65), (some (61, true)), .read, .load false 1 (.tmp 64)⟩,
    ⟨(some 66), (some (61, true)), .pure, .mv (.tmp 0)⟩,
    ⟨(some 67), (some (61, true)), .pure, .nilCheck (.tmp 66)⟩,
    ⟨(some 68), (some (61, true)), .pure, .fieldAddr 0 (.tmp 67)⟩,
    ⟨(some 69), (some (61, true)), .read, .load false 1 (.tmp 68)⟩,
    ⟨(some 70), (some (61, true)), .pure, .len (.tmp 69)⟩,
    ⟨(some 71), (some (61, true)), .pure, .eq false .int (.tmp 65) (.tmp 70)⟩,
    ⟨(some 72), none, .pure, .pick (.tmp 61) (.tmp 71) (.const (.bool false))⟩])
  (.cond (.tmp 72)
   (.region [
     ⟨(some 73), none, .act, .mv (.tmp 0)⟩,
     ⟨(some 74), none, .act, .call 13 [(.tmp 73)]⟩])
   .skip))
theorem cr_key (hT : TOk T) (st : PS) (hi : st.i ≤ T.length) (tn : List UInt8) (cols idx : AV) (key : Int) : ∃ st', Goes T st st' ∧
    ∀ (p q : Nat) (h : AHeap) (Q : AV → AHeap → Prop), p ≠ q → Glob h → h p = some (.box (pst T fin st)) → h q = some (.box (crA tn cols key idx)) → (∀ y, Q y (h.set p (.box (pst T fin st')))) →
      RRun Try.prog Try.f31 75 [.code r31y] (Env.get [(0, ptr p), (1, ptr q), (4, ptrAt q 2)]) h Q := by
  have hlen : (T.map Pa.Tok.cells).length = T.length := by simp
  by_cases hk : key < 0
  · by_cases he : st.i = T.length
    · have cw := wrong_spec (T := T) (fin := fin) st
      refine ⟨_, goes_wrong (fin := fin) hi, ?_⟩
      generalize wrongP T fin st = s1 at cw
      intro p q h Q hpq hg hp hq hQ
      have hp2 := hp
      unfold crA at hq
      unfold pst toksA at hp2
      unfold r31y
      repeat' (first | refine S.nilK ?_ | (refine S.op rfl ?_; first | (show ROpS _ _ (.call 13 _) _ _ _; refine callPCU rfl rfl cw (by repeat' (first | assumption)) (by (repeat' (first | assumption)); first | done | fail) (by repeat' (first | exact rfl)) (fun x => ?_)) | refine R.mv rfl ?_ | refine R.fieldAddr rfl ?_ | refine R.nilCheck rfl ?_ | refine R.load (by decide) rfl (by (repeat' (first | assumption)); first | done | fail) rfl ?_ | refine R.pickT rfl rfl ?_ | refine R.len rfl ?_ | ((first | refine S.lss rfl rfl ?_ ?_ | refine S.eqInt rfl rfl ?_ ?_) <;> intro hlt <;> try (exfalso; omega))) | refine S.seq ?_ | refine S.region ?_ | refine S.condT rfl ?_)
      apply S.done rr31
      case hx => repeat (first | exact ResAt.nil)
      exact hQ _
    · refine ⟨st, Goes.refl hi, ?_⟩
      intro p q h Q hpq hg hp hq hQ
      have hp2 := hp
      unfold crA at hq
      unfold pst toksA at hp2
      unfold r31y
      repeat' (first | refine S.nilK ?_ | (refine S.op rfl ?_; first | refine R.mv rfl ?_ | refine R.fieldAddr rfl ?_ | refine R.nilCheck rfl ?_ | refine R.load (by decide) rfl (by (repeat' (first | assumption)); first | done | fail) rfl ?_ | refine R.pickT rfl rfl ?_ | refine R.len rfl ?_ | ((first | refine S.lss rfl rfl ?_ ?_ | refine S.eqInt rfl rfl ?_ ?_) <;> intro hlt <;> try (exfalso; omega))) | refine S.seq ?_ | refine S.region ?_ | refine S.condF rfl ?_ | refine RRun.skip ?_)
      apply S.done rr31
      case hx => repeat (first | exact ResAt.nil)
      rw [AHeap.set_eq _ hp] at hQ
      exact hQ _
  · refine ⟨st, Goes.refl hi, ?_⟩
    intro p q h Q hpq hg hp hq hQ
    unfold crA at hq
    unfold r31y
    repeat' (first | refine S.nilK ?_ | (refine S.op rfl ?_; first | refine R.mv rfl ?_ | refine R.fieldAddr rfl ?_ | refine R.nilCheck rfl ?_ | refine R.load (by decide) rfl (by (repeat' (first | assumption)); first | done | fail) rfl ?_ | refine R.pickF rfl rfl ?_ | ((first | refine S.lss rfl rfl ?_ ?_) <;> intro hlt <;> try (exfalso; omega))) | refine S.skip rfl ?_ | refine S.seq ?_ | refine S.region ?_ | refine S.condF rfl ?_ | refine RRun.skip ?_)
    apply S.done rr31
    case hx => repeat (first | exact ResAt.nil)
    rw [AHeap.set_eq _ hp] at hQ
    exact hQ _
theorem create_ex (hT : TOk T) (st : PS) (hi : st.i ≤ T.length) : ∃ (S' : List AV) (st' : PS), S'.length = 20 ∧ S'.all AV.one = true ∧ IsSt S' ∧ Goes T st st' ∧ SP T fin 31 zeroS st S' st' := by
  have c1 := need_spec (T := T) (fin := fin) hT.len [[116, 97, 98, 108, 101]] (by decide) .full st
  have g1 := goes_need (fin := fin) (st := st) hi [[116, 97, 98, 108, 101]]
  generalize needP T fin st [[116, 97, 98, 108, 101]] = s1 at c1 g1
  have c2 := name_spec (fin := fin) hT s1
  have g2 := goes_name (fin := fin) (st := s1) g1.2.1
  generalize nameP T fin s1 = r at c2 g2
  obtain ⟨tn, s2⟩ := r
  simp only at c2 g2
  have c3 := need_spec (T := T) (fin := fin) hT.len [[40]] (by decide) .full s2
  have g3 := goes_need (fin := fin) (st := s2) g2.2.1 [[40]]
  generalize needP T fin s2 [[40]] = s3 at c3 g3
  obtain ⟨cx, key, s4, g4, c4⟩ := col_spec (fin := fin) hT s3 g3.2.1 tn nilA [] (by decide) (-1)
  have hl4 := hT.len
  obtain ⟨cs2, key2, idx2, s5, o5, ⟨xi, x5⟩, g5, H⟩ := cr_loop (fin := fin) hT tn (T.length - s4.i + 1) s4 (by omega) g4.2.1 ([] ++ [cx]) key (by simp only [List.length_append, List.length_singleton, List.length_nil]; omega)
  have c6 := need_spec (T := T) (fin := fin) hT.len [[41]] (by decide) .full s5
  have g6 := goes_need (fin := fin) (st := s5) g5.2.1 [[41]]
  generalize needP T fin s5 [[41]] = s6 at c6 g6
  obtain ⟨s7, g7, K⟩ := cr_key (fin := fin) hT s6 g6.2.1 tn (colsA cs2 .ro) idx2 key2
  have hall : (crA tn (colsA cs2 .ro) key2 idx2).all AV.one = (idx2.one && true) := rfl
  rw [o5] at hall
  refine ⟨crA tn (colsA cs2 .ro) key2 idx2, s7, rfl, hall, isSt_of (.refl _) x5 nil_rows nil_sets (.of _) .nil (.of _) (.of _) .nil .nil .nil .nil (.of _) (.of _), g1.trans (g2.trans (g3.trans (g4.trans (g5.trans (g6.trans g7))))), ?_⟩
  intro p q h hpq hg hp hq
  obtain ⟨c', hc1, hc2⟩ := res31
  refine ACalls.weak (ACalls.enter Try.func31 hc1 Try.ntmps31 hc2 (Nat.le_of_ble_eq_true rfl) rfl ?_)
  have hqp := Ne.symm hpq
  have hs0 : SAt T fin p q h s3 .full (crA tn (colsA [] .full) (-1) nilA) ((h.set p (.box (pst T fin s3))).set q (.box (crA tn (colsA [] .full) (-1) nilA))) := ⟨hpq, ⟨_, hp⟩, ⟨_, hq⟩, ((OAt.start h [p, q]).set hp (by simp)).set hq (by simp), (hg.setP hp).setP ((AHeap.set_other _ _ hqp).trans hq), (AHeap.set_other _ _ hpq).trans (AHeap.set_same _ _ _), AHeap.set_same _ _ _⟩
  have hle : ((h.set p (.box (pst T fin s3))).set q (.box (crA tn (colsA [] .full) (-1) nilA))).le ((h.set p (.box (pst T fin s3))).set q (.box (crA tn nilA (-1) nilA))) :=
    ((AHeap.le.refl h).both p _).bothW q (.box (by unfold crA; repeat' (first | exact ALes.nil | refine ALes.cons ?_ ?_ | exact ALe.refl _ | exact ALe.nilSl 3 (c := .full) trivial)))

  unfold zeroS nilA at *
  unfold crA at hle
  repeat' (first | refine S.nilK ?_ | (refine S.op rfl ?_; first | (show ROpS _ _ (.call 34 _) _ _ _; refine callPCU rfl rfl c1 (by repeat' (first | assumption | refine Glob.setP ?_ (by (repeat' (first | assumption)); first | done | fail))) (by (repeat' (first | assumption | refine AHeap.so ?_ ?_)); first | done | fail) (by repeat' (first | (apply AHeap.upd1; · exact (by first | assumption)) | exact rfl)) (fun x => ?_)) | (show ROpS _ _ (.call 35 _) _ _ _; refine callPC rfl rfl c2 (by repeat' (first | assumption | refine Glob.setP ?_ (by (repeat' (first | assumption | refine AHeap.so ?_ ?_)); first | done | fail))) (by (repeat' (first | assumption | exact AHeap.set_same _ _ _ | refine AHeap.so ?_ ?_)); first | done | fail) (by repeat' (first | exact AHeap.set_set _ _ _ _ | (apply AHeap.upd1; · exact (by first | assumption)))) ?_) | (show ROpS _ _ (.call 34 _) _ _ _; refine callPCU rfl rfl c3 (by repeat' (first | assumption | refine Glob.setP ?_ (by (repeat' (first | assumption | refine AHeap.so ?_ ?_)); first | done | fail))) (by (repeat' (first | assumption | exact AHeap.set_same _ _ _ | refine AHeap.so ?_ ?_)); first | done | fail) (by repeat' (first | exact AHeap.set_set _ _ _ _ | (apply AHeap.upd1; · exact (by first | assumption)))) (fun x => ?_)) | refine R.mv rfl ?_ | refine R.fieldAddr rfl ?_ | refine R.nilCheck rfl ?_ | refine R.buildSl rfl rfl rfl (by decide) ?_) | (refine S.op0 rfl ?_; first | refine S.storeN rfl rfl (by (repeat' (first | assumption | exact AHeap.set_same _ _ _)); first | done | fail) rfl rfl rfl (by rfl) rfl (by repeat' (first | exact AHeap.set_set _ _ _ _ | exact rfl)) ?_) | refine S.seq ?_ | refine S.region ?_)
  refine S.op rfl (R.call rfl rfl ((ACalls.subC hle (c4 p q h _ .full hs0)).mono fun _ h' hres => ?_))
  obtain ⟨c', ho', hg', hp', hq'⟩ := hres
  have hs1 : SAt T fin p q h s4 c' (crA tn (colsA ([] ++ [cx]) c') key nilA) h' := ⟨hpq, ⟨_, hp⟩, ⟨_, hq⟩, ho', hg', hp', hq'⟩
  repeat' (first | refine S.nilK ?_ | refine S.seq ?_ | refine RRun.skip ?_ | refine RRun.block ?_)
  refine RRun.loopIn (S.keep [0, 1, 4] rfl (H p q h _ c' _ _ hg hs1 fun h2 hs2 => ?_))
  have K2 := fun Q => K p q (h2.set p (.box (pst T fin s6))) Q hpq (hs2.glob.setP hs2.p) (AHeap.set_same _ _ _) ((AHeap.set_other _ _ hqp).trans hs2.q)
  have hlast := hs2.pset (st' := s7)
  obtain ⟨_, _, _, ho, hg2, hp2, hq2⟩ := hs2
  have hle3 := (hlast.sub hg (ALes.refl _)).1
  have hend : RRun Try.prog Try.f31 75 [.code r31y] (Env.get [(0, ptr p), (1, ptr q), (4, ptrAt q 2)]) (h2.set p (.box (pst T fin s6))) (Weak fun x h' => h' = (h.set p (.box (pst T fin s7))).set q (.box (crA tn (colsA cs2 .ro) key2 idx2))) := K2 _ fun y => by
    rw [AHeap.set_set]
    exact ⟨_, _, .refl _, hle3, rfl⟩
  unfold nilA crA at *
  repeat' (first | ((show RRun _ _ _ [.code r31y] _ _ _; exact S.keep [0, 1, 4] rfl hend)) | (refine S.op rfl ?_; first | (show ROpS _ _ (.call 34 _) _ _ _; refine callPCU rfl rfl c6 (by repeat' (first | assumption)) (by (repeat' (first | assumption)); first | done | fail) (by repeat' (first | exact rfl)) (fun x => ?_)) | refine R.mv rfl ?_ | refine R.buildSl rfl rfl rfl (by decide) ?_) | refine S.seq ?_ | refine S.region ?_)
end
end Go.Proofs.Ytdinnoejipmiiaa

namespace Go.Proofs.Ytdinnoejipmiiaa
open Go.Av
open Go.Av.Pa (PS atP isP wrongP takeP needP kindP nameP opsP operatorP enterP ev exprP expressionP)
section
variable {T : List Tok} {fin : Int}
def insA (tn : List UInt8) (vals : AV) : List AV :=
  [i64 2, str [], i64 0, str [], nilA, i64 0, nilA, vals, nilA, bl false, nilA, str tn, str [], nilA, nilA, nilA, nilA, i64 (-1), bl false, i64 0]
def md32 : Nat → Bool := fun id => [5].contains id
def r32l0 : RCode :=
  (.block 1
   (.seq (.region [
     ⟨(some 18), none, .act, .mv (.tmp 0)⟩,
     ⟨(some 19), none, .act, .buildSl 1 [(.string ⟨#[]⟩)] 1 [(0, (.const (.string ⟨#[40]⟩)))]⟩,
     ⟨(some 20), none, .act, .call 34 [(.tmp 18), (.tmp 19)]⟩])
   (.seq (.regionT (.step ⟨(some 21), none, .pure, .mv (.tmp 1)⟩ (.step ⟨(some 22), none, .pure, .mv (.tmp 1)⟩ (.step ⟨(some 23), none, .pure, .nilCheck (.tmp 22)⟩ (.step ⟨(some 24), none, .pure, .fieldAddr 7 (.tmp 23)⟩ (.step ⟨(some 26), none, .pure, .mv (.tmp 0)⟩ (.alt ⟨(some 25), none, .read, .load false 1 (.tmp 24)⟩ (.alt ⟨(some 27), none, .act, .call 50 [(.tmp 26)]⟩ (.step ⟨(some 28), none, .pure, .buildSl 1 [(.slice none 0 0)] 1 [(0, (.tmp 27))]⟩ (.alt ⟨(some 29), none, .act, .append 1 24 [(.slice none 0 0)] (.tmp 25) (.tmp 28)⟩ (.step ⟨(some 30), none, .pure, .nilCheck (.tmp 21)⟩ (.step ⟨(some 31), none, .pure, .fieldAddr 7 (.tmp 30)⟩ (.alt ⟨none, none, .act, .store 1 (.tmp 31) (.tmp 29)⟩ .done
    .stop)))
    .stop))
    .stop)
    (.alt ⟨(some 27), none, .act, .call 50 [(.tmp 26)]⟩ (.step ⟨(some 25), none, .read, .load false 1 (.tmp 24)⟩ (.step ⟨(some 28), none, .pure, .buildSl 1 [(.slice none 0 0)] 1 [(0, (.tmp 27))]⟩ (.alt ⟨(some 29), none, .act, .append 1 24 [(.slice none 0 0)] (.tmp 25) (.tmp 28)⟩ (.step ⟨(some 30), none, .pure, .nilCheck (.tmp 21)⟩ (.step ⟨(some 31), none, .pure, .fieldAddr 7 (.tmp 30)⟩ (.alt ⟨none, none, .act, .store 1 (.tmp 31) (.tmp 29)⟩ .done
    .stop)))
    .stop)))
    .stop))))))))
   (.seq (.region [
     ⟨(some 32), none, .act, .mv (.tmp 0)⟩,
     ⟨(some 33), none, .act, .buildSl 1 [(.string ⟨#[]⟩)] 1 [(0, (.const (.string ⟨#[41]⟩)))]⟩,
     ⟨(some 34), none, .act, .call 34 [(.tmp 32), (.tmp 33)]⟩])
   (.seq (.region [
     ⟨(some 35), none, .act, .mv (.tmp 0)⟩,
     ⟨(some 36), none, .act, .call 30 [(.tmp 35), (.const (.string ⟨#[44]⟩))]⟩,
     ⟨(some 37), none, .act, .un .not (.tmp 36)⟩])
   (.cond (.tmp 37)
    (.exit 0)
    .skip))))))
def r32 : RCode :=
  (.seq (.region [
    ⟨(some 4), none, .act, .mv (.tmp 1)⟩,
    ⟨(some 5), none, .act, .nilCheck (.tmp 4)⟩,
    ⟨(some 6), none, .act, .fieldAddr 0 (.tmp 5)⟩,
    ⟨none, none, .act, .store 1 (.tmp 6) (.const (.int .i64 2))⟩])
  (.seq (.region [
    ⟨(some 7), none, .act, .mv (.tmp 0)⟩,
    ⟨(some 8), none, .act, .buildSl 1 [(.string ⟨#[]⟩)] 1 [(0, (.const (.string ⟨#[105, 110, 116, 111]⟩)))]⟩,
    ⟨(some 9), none, .act, .call 34 [(.tmp 7), (.tmp 8)]⟩])
  (.seq (.region [
    ⟨(some 10), none, .act, .mv (.tmp 1)⟩,
    ⟨(some 11), none, .act, .mv (.tmp 0)⟩,
    ⟨(some 12), none, .act, .call 35 [(.tmp 11)]⟩,
    ⟨(some 13), none, .act, .nilCheck (.tmp 10)⟩,
    ⟨(some 14), none, .act, .fieldAddr 11 (.tmp 13)⟩,
    ⟨none, none, .act, .store 1 (.tmp 14) (.tmp 12)⟩])
  (.seq (.region [
    ⟨(some 15), none, .act, .mv (.tmp 0)⟩,
    ⟨(some 16), none, .act, .buildSl 1 [(.string ⟨#[]⟩)] 1 [(0, (.const (.string ⟨#[118, 97, 108, 117, 101, 115]⟩)))]⟩,
    ⟨(some 17), none, .act, .call 34 [(.tmp 15), (.tmp 16)]⟩])
  (.seq .skip
  (.block 0
   (.loop r32l0)))))))
theorem res32 : ∃ c, Try.f32.body = some c ∧ resCodeM Try.prog 38 md32 c = some r32 := ⟨_, rfl, by kernel_rfl⟩
theorem rr32 : resRes Try.prog Try.f32.results.toList = some [] := by kernel_rfl
theorem ins_round (tn : List UInt8) (r : List Pa.Ex) (b : Bool) (st s1 s2 s3 s4 : PS) (c1 : PCU T fin 34 [strsA [[40]] .full] st s1) (c2 : PC T fin 50 [] s1 (exs r) s2) (c3 : PCU T fin 34 [strsA [[41]] .full] s2 s3) (c4 : PC T fin 30 [str [44]] s3 (bl b) s4)
    (p q : Nat) (h₀ h : AHeap) (rows : List (List Pa.Ex)) (c : Cap) (k : List RT) (Q : AV → AHeap → Prop) (hlen : rows.length ≤ 1000) (hs : SAt T fin p q h₀ st c (insA tn (rowsA rows c)) h)
    (hk : ∀ h' c', SAt T fin p q h₀ s4 c' (insA tn (rowsA (rows ++ [r]) c')) h' → RRun Try.prog Try.f32 38 (if b then .inLoop r32l0 :: .inBlock 0 :: k else k) (Env.get [(0, ptr p), (1, ptr q)]) h' Q) :
    RRun Try.prog Try.f32 38 (.inLoop r32l0 :: .inBlock 0 :: k) (Env.get [(0, ptr p), (1, ptr q)]) h Q := by
  have hs2 := hs.pset (st' := s2)
  obtain ⟨hpq, ⟨x0, hx0⟩, ⟨y0, hy0⟩, ho, hg, hp, hq⟩ := hs
  have hqp := Ne.symm hpq
  unfold insA rowsA at hq
  refine RRun.inLoop ?_
  repeat' (first | refine S.nilK ?_ | (refine S.op rfl ?_; first | (show ROpS _ _ (.call 34 _) _ _ _; refine callPCU rfl rfl c1 (by repeat' (first | assumption)) (by (repeat' (first | assumption)); first | done | fail) (by repeat' (first | exact rfl)) (fun x => ?_)) | refine R.mv rfl ?_ | refine R.buildSl rfl rfl rfl (by decide) ?_) | refine S.seq ?_ | refine S.region ?_ | refine RRun.block ?_)
  refine S.regionT ?_
  repeat' (first | refine S.nilK ?_ | (refine S.op rfl ?_; first | refine R.mv rfl ?_ | refine R.fieldAddr rfl ?_ | refine R.nilCheck rfl ?_))
  refine S.talt ?_ ?_
  · repeat' (first | refine S.nilK ?_ | (refine S.op rfl ?_; first | refine R.load (by decide) rfl (by (repeat' (first | assumption | refine AHeap.so ?_ ?_)); first | done | fail) rfl ?_))
    refine S.talt ?_ S.tstop
    repeat' (first | refine S.nilK ?_ | (refine S.op rfl ?_; first | (show ROpS _ _ (.call 50 _) _ _ _; refine callPC rfl rfl c2 (by repeat' (first | assumption | refine Glob.setP ?_ (by (repeat' (first | assumption)); first | done | fail))) (by (repeat' (first | exact AHeap.set_same _ _ _)); first | done | fail) (by repeat' (first | exact AHeap.set_set _ _ _ _)) ?_) | refine R.buildSl rfl rfl rfl (by decide) ?_))
    repeat' (fail)
    refine S.talt ?_ S.tstop
    have hp2 := hs2.p
    have hq2 := hs2.q
    have ho2 := hs2.own
    have hg2 := hs2.glob
    unfold insA rowsA at hq2
    refine S.op rfl (S.appO (h₀ := h₀) (ps := [p, q]) (ys := [[exs r]]) rfl ho2 (ps_some hp2 hq2) rfl rfl (.sl _ _) ?_ ?_ ?_ (fun c' h' ho' hk' hk2 => ?_))
    · intro e he a ha
      simp only [List.mem_singleton] at he
      subst he
      simp only [List.mem_cons, List.not_mem_nil, or_false] at ha
      subst ha
      rfl
    · simp only [List.length_map, List.length_singleton]; omega
    · simp only [List.length_map, List.length_singleton]; omega
    have hp' := hk' p _ hp2
    have hq' := hk' q _ hq2
    have hg' := hg2.kept hk2
    have hs3 : SAt T fin p q h₀ s4 c' (insA tn (rowsA (rows ++ [r]) c')) ((h'.set p (.box (pst T fin s4))).set q (.box (insA tn (rowsA (rows ++ [r]) c')))) := SAt.qset (SAt.pset (st := s2) ⟨hpq, ⟨x0, hx0⟩, ⟨y0, hy0⟩, ho', hg', hp', hq'⟩)
    have fin1 := hk _ c' hs3
    clear hp2 hq2 ho2 hg2 hs2 hs3 hp hq hk
    unfold insA rowsA at fin1
    rw [List.map_append, List.map_singleton] at fin1
    repeat' (first | refine S.nilK ?_ | (refine S.op rfl ?_; first | refine R.fieldAddr rfl ?_ | refine R.nilCheck rfl ?_))
    refine S.talt ?_ S.tstop
    cases b with
    | true =>
      repeat' (first | refine S.nilK ?_ | (refine S.op rfl ?_; first | (show ROpS _ _ (.call 34 _) _ _ _; refine callPCU rfl rfl c3 (by repeat' (first | assumption | refine Glob.setP ?_ (by (repeat' (first | assumption)); first | done | fail))) (by (repeat' (first | assumption | refine AHeap.so ?_ ?_)); first | done | fail) (by repeat' (first | (apply AHeap.upd1; · exact (by first | assumption)) | exact rfl)) (fun x => ?_)) | (show ROpS _ _ (.call 30 _) _ _ _; refine callPC rfl rfl c4 (by repeat' (first | assumption | refine Glob.setP ?_ (by (repeat' (first | assumption | refine AHeap.so ?_ ?_)); first | done | fail))) (by (repeat' (first | assumption | exact AHeap.set_same _ _ _ | refine AHeap.so ?_ ?_)); first | done | fail) (by repeat' (first | exact AHeap.set_set _ _ _ _ | (apply AHeap.upd1; · exact (by first | assumption)))) ?_) | refine R.mv rfl ?_ | refine R.not rfl ?_ | refine R.buildSl rfl rfl rfl (by decide) ?_) | (refine S.op0 rfl ?_; first | refine S.storeN rfl rfl (by (repeat' (first | assumption)); first | done | fail) rfl rfl rfl (by rfl) rfl (by repeat' (first | exact rfl)) ?_) | refine S.seq ?_ | refine S.region ?_ | refine S.condF rfl ?_ | refine RRun.skip ?_ | refine RRun.inBlock ?_)
      exact S.keep [0, 1] rfl fin1
    | false =>
      repeat' (first | refine S.nilK ?_ | (refine S.op rfl ?_; first | (show ROpS _ _ (.call 34 _) _ _ _; refine callPCU rfl rfl c3 (by repeat' (first | assumption | refine Glob.setP ?_ (by (repeat' (first | assumption)); first | done | fail))) (by (repeat' (first | assumption | refine AHeap.so ?_ ?_)); first | done | fail) (by repeat' (first | (apply AHeap.upd1; · exact (by first | assumption)) | exact rfl)) (fun x => ?_)) | (show ROpS _ _ (.call 30 _) _ _ _; refine callPC rfl rfl c4 (by repeat' (first | assumption | refine Glob.setP ?_ (by (repeat' (first | assumption | refine AHeap.so ?_ ?_)); first | done | fail))) (by (repeat' (first | assumption | exact AHeap.set_same _ _ _ | refine AHeap.so ?_ ?_)); first | done | fail) (by repeat' (first | exact AHeap.set_set _ _ _ _ | (apply AHeap.upd1; · exact (by first | assumption)))) ?_) | refine R.mv rfl ?_ | refine R.not rfl ?_ | refine R.buildSl rfl rfl rfl (by decide) ?_) | (refine S.op0 rfl ?_; first | refine S.storeN rfl rfl (by (repeat' (first | assumption)); first | done | fail) rfl rfl rfl (by rfl) rfl (by repeat' (first | exact rfl)) ?_) | refine S.seq ?_ | refine S.region ?_ | refine S.condT rfl ?_ | refine RRun.exit rfl ?_)
      exact S.keep [0, 1] rfl fin1
  · refine S.talt ?_ S.tstop
    repeat' (first | refine S.nilK ?_ | (refine S.op rfl ?_; first | (show ROpS _ _ (.call 50 _) _ _ _; refine callPC rfl rfl c2 (by repeat' (first | assumption | refine Glob.setP ?_ (by (repeat' (first | assumption)); first | done | fail))) (by (repeat' (first | exact AHeap.set_same _ _ _)); first | done | fail) (by repeat' (first | exact AHeap.set_set _ _ _ _)) ?_) | refine R.load (by decide) rfl (by (repeat' (first | assumption | refine AHeap.so ?_ ?_)); first | done | fail) rfl ?_ | refine R.buildSl rfl rfl rfl (by decide) ?_))
    repeat' (fail)
    refine S.talt ?_ S.tstop
    have hp2 := hs2.p
    have hq2 := hs2.q
    have ho2 := hs2.own
    have hg2 := hs2.glob
    unfold insA rowsA at hq2
    refine S.op rfl (S.appO (h₀ := h₀) (ps := [p, q]) (ys := [[exs r]]) rfl ho2 (ps_some hp2 hq2) rfl rfl (.sl _ _) ?_ ?_ ?_ (fun c' h' ho' hk' hk2 => ?_))
    · intro e he a ha
      simp only [List.mem_singleton] at he
      subst he
      simp only [List.mem_cons, List.not_mem_nil, or_false] at ha
      subst ha
      rfl
    · simp only [List.length_map, List.length_singleton]; omega
    · simp only [List.length_map, List.length_singleton]; omega
    have hp' := hk' p _ hp2
    have hq' := hk' q _ hq2
    have hg' := hg2.kept hk2
    have hs3 : SAt T fin p q h₀ s4 c' (insA tn (rowsA (rows ++ [r]) c')) ((h'.set p (.box (pst T fin s4))).set q (.box (insA tn (rowsA (rows ++ [r]) c')))) := SAt.qset (SAt.pset (st := s2) ⟨hpq, ⟨x0, hx0⟩, ⟨y0, hy0⟩, ho', hg', hp', hq'⟩)
    have fin1 := hk _ c' hs3
    clear hp2 hq2 ho2 hg2 hs2 hs3 hp hq hk
    unfold insA rowsA at fin1
    rw [List.map_append, List.map_singleton] at fin1
    repeat' (first | refine S.nilK ?_ | (refine S.op rfl ?_; first | refine R.fieldAddr rfl ?_ | refine R.nilCheck rfl ?_))
    refine S.talt ?_ S.tstop
    cases b with
    | true =>
      repeat' (first | refine S.nilK ?_ | (refine S.op rfl ?_; first | (show ROpS _ _ (.call 34 _) _ _ _; refine callPCU rfl rfl c3 (by repeat' (first | assumption | refine Glob.setP ?_ (by (repeat' (first | assumption)); first | done | fail))) (by (repeat' (first | assumption | refine AHeap.so ?_ ?_)); first | done | fail) (by repeat' (first | (apply AHeap.upd1; · exact (by first | assumption)) | exact rfl)) (fun x => ?_)) | (show ROpS _ _ (.call 30 _) _ _ _; refine callPC rfl rfl c4 (by repeat' (first | assumption | refine Glob.setP ?_ (by (repeat' (first | assumption | refine AHeap.so ?_ ?_)); first | done | fail))) (by (repeat' (first | assumption | exact AHeap.set_same _ _ _ | refine AHeap.so ?_ ?_)); first | done | fail) (by repeat' (first | exact AHeap.set_set _ _ _ _ | (apply AHeap.upd1; · exact (by first | assumption)))) ?_) | refine R.mv rfl ?_ | refine R.not rfl ?_ | refine R.buildSl rfl rfl rfl (by decide) ?_) | (refine S.op0 rfl ?_; first | refine S.storeN rfl rfl (by (repeat' (first | assumption)); first | done | fail) rfl rfl rfl (by rfl) rfl (by repeat' (first | exact rfl)) ?_) | refine S.seq ?_ | refine S.region ?_ | refine S.condF rfl ?_ | refine RRun.skip ?_ | refine RRun.inBlock ?_)
      exact S.keep [0, 1] rfl fin1
    | false =>
      repeat' (first | refine S.nilK ?_ | (refine S.op rfl ?_; first | (show ROpS _ _ (.call 34 _) _ _ _; refine callPCU rfl rfl c3 (by repeat' (first | assumption | refine Glob.setP ?_ (by (repeat' (first | assumption)); first | done | fail))) (by (repeat' (first | assumption | refine AHeap.so ?_ ?_)); first | done | fail) (by repeat' (first | (apply AHeap.upd1; · exact (by first | assumption)) | exact rfl)) (fun x => ?_)) | (show ROpS _ _ (.call 30 _) _ _ _; refine callPC rfl rfl c4 (by repeat' (first | assumption | refine Glob.setP ?_ (by (repeat' (first | assumption | refine AHeap.so ?_ ?_)); first | done | fail))) (by (repeat' (first | assumption | exact AHeap.set_same _ _ _ | refine AHeap.so ?_ ?_)); first | done | fail) (by repeat' (first | exact AHeap.set_set _ _ _ _ | (apply AHeap.upd1; · exact (by first | assumption)))) ?_) | refine R.mv rfl ?_ | refine R.not rfl ?_ | refine R.buildSl rfl rfl rfl (by decide) ?_) | (refine S.op0 rfl ?_; first | refine S.storeN rfl rfl (by (repeat' (first | assumption)); first | done | fail) rfl rfl rfl (by rfl) rfl (by repeat' (first | exact rfl)) ?_) | refine S.seq ?_ | refine S.region ?_ | refine S.condT rfl ?_ | refine RRun.exit rfl ?_)
      exact S.keep [0, 1] rfl fin1
theorem ins_loop (hT : TOk T) (tn : List UInt8) : ∀ (m : Nat) (st : PS), T.length - st.i < m → st.i ≤ T.length → st.d ≤ 20 → ∃ (l2 : List (List Pa.Ex)) (st2 : PS), Goes T st st2 ∧
    ∀ (p q : Nat) (h₀ h : AHeap) (rows : List (List Pa.Ex)) (c : Cap) (k : List RT) (Q : AV → AHeap → Prop), rows.length + (T.length - st.i) ≤ 1000 → SAt T fin p q h₀ st c (insA tn (rowsA rows c)) h →
      (∀ h' c', SAt T fin p q h₀ st2 c' (insA tn (rowsA (rows ++ l2) c')) h' → RRun Try.prog Try.f32 38 k (Env.get [(0, ptr p), (1, ptr q)]) h' Q) →
      RRun Try.prog Try.f32 38 (.inLoop r32l0 :: .inBlock 0 :: k) (Env.get [(0, ptr p), (1, ptr q)]) h Q := by
  intro m
  induction m with
  | zero => intro st h0; omega
  | succ m ih =>
    intro st hm hi hd
    have c1 := need_spec (T := T) (fin := fin) hT.len [[40]] (by decide) .full st
    have g1 := goes_need (fin := fin) (st := st) hi [[40]]
    generalize needP T fin st [[40]] = s1 at c1 g1
    obtain ⟨r, s2, g2, c2⟩ := list_ex (fin := fin) hT s1 g1.2.1 (by have := g1.2.2; omega)
    have c3 := need_spec (T := T) (fin := fin) hT.len [[41]] (by decide) .full s2
    have g3 := goes_need (fin := fin) (st := s2) g2.2.1 [[41]]
    generalize needP T fin s2 [[41]] = s3 at c3 g3
    obtain ⟨b, s4, g4, hb, c4⟩ := take_any (fin := fin) hT s3 g3.2.1 [44]
    have g123 := g1.trans (g2.trans g3)
    have gg := g123.trans g4
    cases b with
    | true =>
      have h1 := hb rfl
      have h2 := g123.1
      have h3 := g4.2.1
      obtain ⟨l2, s5, g5, H⟩ := ih s4 (by omega) g4.2.1 (by have := gg.2.2; omega)
      refine ⟨r :: l2, s5, gg.trans g5, ?_⟩
      intro p q h₀ h rows c k Q hlen hs hk
      refine ins_round tn r true st s1 s2 s3 s4 c1 c2 c3 c4 p q h₀ h rows c k Q (by omega) hs (fun h' c' a => ?_)
      rw [if_pos rfl]
      refine H p q h₀ h' (rows ++ [r]) c' k Q (by simp only [List.length_append, List.length_singleton]; omega) a (fun h2 c2 b1 => ?_)
      have := hk h2 c2
      rw [List.append_assoc] at b1
      exact this b1
    | false =>
      refine ⟨[r], s4, gg, ?_⟩
      intro p q h₀ h rows c k Q hlen hs hk
      refine ins_round tn r false st s1 s2 s3 s4 c1 c2 c3 c4 p q h₀ h rows c k Q (by omega) hs (fun h' c' a => ?_)
      rw [if_neg (by decide)]
      exact hk h' c' a
theorem insert_ex (hT : TOk T) (st : PS) (hi : st.i ≤ T.length) (hd : st.d ≤ 20) : ∃ (S' : List AV) (st' : PS), S'.length = 20 ∧ S'.all AV.one = true ∧ IsSt S' ∧ Goes T st st' ∧ SP T fin 32 zeroS st S' st' := by
  have c1 := need_spec (T := T) (fin := fin) hT.len [[105, 110, 116, 111]] (by decide) .full st
  have g1 := goes_need (fin := fin) (st := st) hi [[105, 110, 116, 111]]
  generalize needP T fin st [[105, 110, 116, 111]] = s1 at c1 g1
  have c2 := name_spec (fin := fin) hT s1
  have g2 := goes_name (fin := fin) (st := s1) g1.2.1
  generalize nameP T fin s1 = r at c2 g2
  obtain ⟨tn, s2⟩ := r
  simp only at c2 g2
  have c3 := need_spec (T := T) (fin := fin) hT.len [[118, 97, 108, 117, 101, 115]] (by decide) .full s2
  have g3 := goes_need (fin := fin) (st := s2) g2.2.1 [[118, 97, 108, 117, 101, 115]]
  generalize needP T fin s2 [[118, 97, 108, 117, 101, 115]] = s3 at c3 g3
  have hl4 := hT.len
  have gg := g1.trans (g2.trans g3)
  obtain ⟨l2, s4, g4, H⟩ := ins_loop (fin := fin) hT tn (T.length - s3.i + 1) s3 (by omega) g3.2.1 (by have := gg.2.2; omega)
  refine ⟨insA tn (rowsA l2 .ro), s4, rfl, rfl, isSt_of nil_cols nil_ints (.refl _) nil_sets (.of _) .nil (.of _) (.of _) .nil .nil .nil .nil (.of _) (.of _), gg.trans g4, ?_⟩
  intro p q h hpq hg hp hq
  obtain ⟨c', hc1, hc2⟩ := res32
  refine ACalls.weak (ACalls.enter Try.func32 hc1 Try.ntmps32 hc2 (Nat.le_of_ble_eq_true rfl) rfl ?_)
  have hqp := Ne.symm hpq
  have hs0 : SAt T fin p q h s3 .full (insA tn (rowsA [] .full)) ((h.set p (.box (pst T fin s3))).set q (.box (insA tn (rowsA [] .full)))) := ⟨hpq, ⟨_, hp⟩, ⟨_, hq⟩, ((OAt.start h [p, q]).set hp (by simp)).set hq (by simp), (hg.setP hp).setP ((AHeap.set_other _ _ hqp).trans hq), (AHeap.set_other _ _ hpq).trans (AHeap.set_same _ _ _), AHeap.set_same _ _ _⟩
  have hle : ((h.set p (.box (pst T fin s3))).set q (.box (insA tn (rowsA [] .full)))).le ((h.set p (.box (pst T fin s3))).set q (.box (insA tn nilA))) :=
    ((AHeap.le.refl h).both p _).bothW q (.box (.cons (.refl _) (.cons (.refl _) (.cons (.refl _) (.cons (.refl _) (.cons (.refl _) (.cons (.refl _) (.cons (.refl _) (.cons (.nilSl 1 (c := .full) trivial) (.refl _))))))))))
  unfold zeroS nilA at *
  unfold insA at hle
  repeat' (first | refine S.nilK ?_ | (refine S.op rfl ?_; first | (show ROpS _ _ (.call 34 _) _ _ _; refine callPCU rfl rfl c1 (by repeat' (first | assumption | refine Glob.setP ?_ (by (repeat' (first | assumption)); first | done | fail))) (by (repeat' (first | assumption | refine AHeap.so ?_ ?_)); first | done | fail) (by repeat' (first | (apply AHeap.upd1; · exact (by first | assumption)) | exact rfl)) (fun x => ?_)) | (show ROpS _ _ (.call 35 _) _ _ _; refine callPC rfl rfl c2 (by repeat' (first | assumption | refine Glob.setP ?_ (by (repeat' (first | assumption | refine AHeap.so ?_ ?_)); first | done | fail))) (by (repeat' (first | assumption | exact AHeap.set_same _ _ _ | refine AHeap.so ?_ ?_)); first | done | fail) (by repeat' (first | exact AHeap.set_set _ _ _ _ | (apply AHeap.upd1; · exact (by first | assumption)))) ?_) | (show ROpS _ _ (.call 34 _) _ _ _; refine callPCU rfl rfl c3 (by repeat' (first | assumption | refine Glob.setP ?_ (by (repeat' (first | assumption | refine AHeap.so ?_ ?_)); first | done | fail))) (by (repeat' (first | assumption | exact AHeap.set_same _ _ _ | refine AHeap.so ?_ ?_)); first | done | fail) (by repeat' (first | exact AHeap.set_set _ _ _ _ | (apply AHeap.upd1; · exact (by first | assumption)))) (fun x => ?_)) | refine R.mv rfl ?_ | refine R.fieldAddr rfl ?_ | refine R.nilCheck rfl ?_ | refine R.buildSl rfl rfl rfl (by decide) ?_) | (refine S.op0 rfl ?_; first | refine S.storeN rfl rfl (by (repeat' (first | assumption | exact AHeap.set_same _ _ _)); first | done | fail) rfl rfl rfl (by rfl) rfl (by repeat' (first | exact AHeap.set_set _ _ _ _ | exact rfl)) ?_) | refine S.seq ?_ | refine S.region ?_ | refine RRun.skip ?_ | refine RRun.block ?_)
  refine RRun.sub hle (RRun.loopIn (S.keep [0, 1] rfl (H p q h _ [] .full _ _ (by simp only [List.length_nil]; omega) hs0 fun h2 c2 hs2 => ?_)))
  obtain ⟨hle2, _⟩ := hs2.sub hg (A' := insA tn (rowsA l2 .ro)) (.cons (.refl _) (.cons (.refl _) (.cons (.refl _) (.cons (.refl _) (.cons (.refl _) (.cons (.refl _) (.cons (.refl _) (.cons (.toRo _ _ _) (.refl _)))))))))
  repeat' (fail)
  apply S.done rr32
  case hx => repeat (first | exact ResAt.nil)
  exact ⟨_, _, .refl _, hle2, rfl⟩
end
end Go.Proofs.Ytdinnoejipmiiaa

namespace Go.Proofs.Ytdinnoejipmiiaa
open Go.Av
open Go.Av.Pa (PS atP isP wrongP takeP needP kindP nameP opsP operatorP enterP ev exprP expressionP)
section
variable {T : List Tok} {fin : Int}
def updA (tn : List UInt8) (sets wh : AV) : List AV :=
  [i64 3, str [], i64 0, str [], nilA, i64 0, nilA, nilA, sets, bl false, nilA, str tn, str [], nilA, wh, nilA, nilA, i64 (-1), bl false, i64 0]
def r33l0 : RCode :=
  (.block 1
   (.seq (.region [
     ⟨(some 16), none, .act, .mv (.tmp 0)⟩,
     ⟨(some 17), none, .act, .call 35 [(.tmp 16)]⟩,
     ⟨(some 18), none, .act, .build [(.string ⟨#[]⟩), (.int .i64 0), (.string ⟨#[]⟩), (.string ⟨#[]⟩), (.int .i64 0), (.int .i64 0), (.int .i64 0), (.string ⟨#[]⟩), (.slice none 0 0)] [(0, 1, (.tmp 17))]⟩,
     ⟨(some 4), none, .act, .alloc [(.string ⟨#[]⟩), (.int .i64 0), (.string ⟨#[]⟩), (.string ⟨#[]⟩), (.int .i64 0), (.int .i64 0), (.int .i64 0), (.string ⟨#[]⟩), (.slice none 0 0)]⟩,
     ⟨none, none, .act, .store 9 (.tmp 4) (.tmp 18)⟩])
   (.seq (.region [
     ⟨(some 19), none, .act, .mv (.tmp 0)⟩,
     ⟨(some 20), none, .act, .buildSl 1 [(.string ⟨#[]⟩)] 1 [(0, (.const (.string ⟨#[61]⟩)))]⟩,
     ⟨(some 21), none, .act, .call 34 [(.tmp 19), (.tmp 20)]⟩])
   (.seq (.region [
     ⟨(some 22), none, .act, .mv (.tmp 0)⟩,
     ⟨(some 23), none, .act, .call 12 [(.tmp 22)]⟩,
     ⟨(some 24), none, .act, .fieldAddr 1 (.tmp 4)⟩,
     ⟨none, none, .act, .store 8 (.tmp 24) (.tmp 23)⟩])
   (.seq (.region [
     ⟨(some 25), none, .pure, .mv (.tmp 1)⟩,
     ⟨(some 26), none, .pure, .mv (.tmp 1)⟩,
     ⟨(some 27), none, .pure, .nilCheck (.tmp 26)⟩,
     ⟨(some 28), none, .pure, .fieldAddr 8 (.tmp 27)⟩,
     ⟨(some 29), none, .read, .load false 1 (.tmp 28)⟩,
     ⟨(some 30), none, .read, .load true 9 (.tmp 4)⟩,
     ⟨(some 31), none, .pure, .buildSl 9 [(.string ⟨#[]⟩), (.int .i64 0), (.string ⟨#[]⟩), (.string ⟨#[]⟩), (.int .i64 0), (.int .i64 0), (.int .i64 0), (.string ⟨#[]⟩), (.slice none 0 0)] 1 [(0, (.tmp 30))]⟩,
     ⟨(some 32), none, .act, .append 9 120 [(.string ⟨#[]⟩), (.int .i64 0), (.string ⟨#[]⟩), (.string ⟨#[]⟩), (.int .i64 0), (.int .i64 0), (.int .i64 0), (.string ⟨#[]⟩), (.slice none 0 0)] (.tmp 29) (.tmp 31)⟩,
     ⟨(some 33), none, .pure, .nilCheck (.tmp 25)⟩,
     ⟨(some 34), none, .pure, .fieldAddr 8 (.tmp 33)⟩,
     ⟨none, none, .act, .store 1 (.tmp 34) (.tmp 32)⟩])
   (.seq (.region [
     ⟨(some 35), none, .act, .mv (.tmp 0)⟩,
     ⟨(some 36), none, .act, .call 30 [(.tmp 35), (.const (.string ⟨#[44]⟩))]⟩,
     ⟨(some 37), none, .act, .un .not (.tmp 36)⟩])
   (.cond (.tmp 37)
    (.exit 0)
    .skip)))))))
def r33 : RCode :=
  (.seq (.region [
    ⟨(some 5), none, .act, .mv (.tmp 1)⟩,
    ⟨(some 6), none, .act, .mv (.tmp 1)⟩,
    ⟨(some 7), none, .act, .mv (.tmp 0)⟩,
    ⟨(some 8), none, .act, .call 35 [(.tmp 7)]⟩,
    ⟨(some 9), none, .act, .nilCheck (.tmp 5)⟩,
    ⟨(some 10), none, .act, .fieldAddr 0 (.tmp 9)⟩,
    ⟨none, none, .act, .store 1 (.tmp 10) (.const (.int .i64 3))⟩,
    ⟨(some 11), none, .act, .nilCheck (.tmp 6)⟩,
    ⟨(some 12), none, .act, .fieldAddr 11 (.tmp 11)⟩,
    ⟨none, none, .act, .store 1 (.tmp 12) (.tmp 8)⟩])
  (.seq (.region [
    ⟨(some 13), none, .act, .mv (.tmp 0)⟩,
    ⟨(some 14), none, .act, .buildSl 1 [(.string ⟨#[]⟩)] 1 [(0, (.const (.string ⟨#[115, 101, 116]⟩)))]⟩,
    ⟨(some 15), none, .act, .call 34 [(.tmp 13), (.tmp 14)]⟩])
  (.seq .skip
  (.seq (.block 0
   (.loop r33l0))
  (.region [
    ⟨(some 38), none, .act, .mv (.tmp 1)⟩,
    ⟨(some 39), none, .act, .mv (.tmp 0)⟩,
    ⟨(some 40), none, .act, .call 36 [(.tmp 39), (.const (.string ⟨#[119, 104, 101, 114, 101]⟩))]⟩,
    ⟨(some 41), none, .act, .nilCheck (.tmp 38)⟩,
    ⟨(some 42), none, .act, .fieldAddr 14 (.tmp 41)⟩,
    ⟨none, none, .act, .store 1 (.tmp 42) (.tmp 40)⟩])))))
theorem res33 : ∃ c, Try.f33.body = some c ∧ resCode Try.prog 43 c = some r33 := ⟨_, rfl, by kernel_rfl⟩
theorem rr33 : resRes Try.prog Try.f33.results.toList = some [] := by kernel_rfl
theorem upd_round (tn nm : List UInt8) (e : Pa.Ex) (bb : Bool) (st s1 s2 s3 s4 : PS) (c1 : PC T fin 35 [] st (str nm) s1) (c2 : PCU T fin 34 [strsA [[61]] .full] s1 s2) (c3 : PC T fin 12 [] s2 (.ag e.cells) s3) (c4 : PC T fin 30 [str [44]] s3 (bl bb) s4)
    (p q : Nat) (h₀ h : AHeap) (sets : List (List UInt8 × Pa.Ex)) (c : Cap) (k : List RT) (Q : AV → AHeap → Prop) (hlen : sets.length ≤ 1000) (hs : SAt T fin p q h₀ st c (updA tn (setsA sets c) nilA) h)
    (hk : ∀ h' c', SAt T fin p q h₀ s4 c' (updA tn (setsA (sets ++ [(nm, e)]) c') nilA) h' → RRun Try.prog Try.f33 43 (if bb then .inLoop r33l0 :: .inBlock 0 :: k else k) (Env.get [(0, ptr p), (1, ptr q)]) h' Q) :
    RRun Try.prog Try.f33 43 (.inLoop r33l0 :: .inBlock 0 :: k) (Env.get [(0, ptr p), (1, ptr q)]) h Q := by
  have hs2 := hs.pset (st' := s3)
  obtain ⟨hpq, ⟨x0, hx0⟩, ⟨y0, hy0⟩, ho, hg, hp, hq⟩ := hs
  have hqp := Ne.symm hpq
  obtain ⟨op, t, xn, n, vk, vn, vs, ars, rfl⟩ := ex_parts e
  rw [Pa.Ex.cells_mk] at c3
  have es : setA (nm, .mk op t xn n ⟨vk, vn, vs⟩ ars) = [str nm, i64 op, str t, str xn, i64 n, i64 vk, i64 vn, str vs, .sl 8 (ars.map Pa.Ex.cells) .ro] := by
    unfold setA
    rw [Pa.Ex.cells_mk]
  unfold updA setsA at hq
  refine RRun.inLoop ?_
  repeat' (first | refine S.nilK ?_ | (refine S.op rfl ?_; first | (show ROpS _ _ (.call 35 _) _ _ _; refine callPC rfl rfl c1 (by repeat' (first | assumption)) (by (repeat' (first | assumption)); first | done | fail) (by repeat' (first | exact rfl)) ?_) | (show ROpS _ _ (.call 34 _) _ _ _; refine callPCU rfl rfl c2 (by repeat' (first | assumption | refine Glob.setF ?_ (by (repeat' (first | assumption)); first | done | fail) | refine Glob.setP ?_ (by (repeat' (first | assumption)); first | done | fail))) (by (repeat' (first | exact AHeap.set_same _ _ _ | refine AHeap.get_fresh ‹_› ?_)); first | done | fail) (by repeat' (first | exact AHeap.set_set _ _ _ _ | (apply AHeap.upd1; · exact (by first | exact AHeap.n1 ‹_›)))) (fun x => ?_)) | (show ROpS _ _ (.call 12 _) _ _ _; refine callPC rfl rfl c3 (by repeat' (first | assumption | refine Glob.setF ?_ (by (repeat' (first | exact AHeap.z1 ‹_› | refine AHeap.so ?_ ?_ | exact AHeap.n1 ‹_›)); first | done | fail) | refine Glob.setP ?_ (by (repeat' (first | assumption)); first | done | fail))) (by (repeat' (first | exact AHeap.set_same _ _ _ | refine AHeap.so ?_ ?_ | exact AHeap.n2 ‹_›)); first | done | fail) (by repeat' (first | exact AHeap.set_set _ _ _ _ | (apply AHeap.upd1; · exact (by first | exact AHeap.n1 ‹_›)))) ?_) | refine R.mv rfl ?_ | refine R.fieldAddr rfl ?_ | refine R.nilCheck rfl ?_ | refine R.load (by decide) rfl (by (repeat' (first | assumption | exact AHeap.set_same _ _ _ | refine AHeap.so ?_ ?_ | exact AHeap.n7 ‹_› ‹_›)); first | done | fail) rfl ?_ | refine R.alloc rfl (fun b hb => ?_) | refine R.build rfl rfl ?_ | refine R.buildSl rfl rfl rfl (by decide) ?_) | (refine S.op0 rfl ?_; first | refine S.storeN rfl rfl (by (repeat' (first | exact AHeap.set_same _ _ _)); first | done | fail) rfl rfl rfl (by rfl) rfl (by repeat' (first | exact AHeap.set_set _ _ _ _)) ?_) | refine S.seq ?_ | refine S.region ?_ | refine RRun.block ?_)
  have hs5 := fun o hb => hs2.loc (b := b) (o := o) hb
  have hs6 := hs5 (.box [str nm, i64 op, str t, str xn, i64 n, i64 vk, i64 vn, str vs, .sl 8 (ars.map Pa.Ex.cells) .ro]) (by (repeat' (first | exact AHeap.z1 ‹_› | refine AHeap.so ?_ ?_ | exact AHeap.n1 ‹_›)); first | done | fail)
  have hp2 := hs6.p
  have hq2 := hs6.q
  have ho2 := hs6.own
  have hg2 := hs6.glob
  refine S.op rfl (S.appO (h₀ := h₀) (ps := [p, q]) (ys := [[str nm, i64 op, str t, str xn, i64 n, i64 vk, i64 vn, str vs, .sl 8 (ars.map Pa.Ex.cells) .ro]]) rfl ho2 (ps_some hp2 hq2) rfl rfl (.sl _ _) ?_ ?_ ?_ (fun c' h' ho' hk' hk2 => ?_))
  · intro e he a ha
    simp only [List.mem_singleton] at he
    subst he
    simp only [List.mem_cons, List.not_mem_nil, or_false] at ha
    rcases ha with rfl | rfl | rfl | rfl | rfl | rfl | rfl | rfl | rfl <;> rfl
  · simp only [List.length_map, List.length_singleton]; omega
  · simp only [List.length_map, List.length_singleton]; omega
  have hp' := hk' p _ hp2
  have hq' := hk' q _ hq2
  have hg' := hg2.kept hk2
  have hs7 : SAt T fin p q h₀ s4 c' (updA tn (setsA (sets ++ [(nm, .mk op t xn n ⟨vk, vn, vs⟩ ars)]) c') nilA) ((h'.set p (.box (pst T fin s4))).set q (.box (updA tn (setsA (sets ++ [(nm, .mk op t xn n ⟨vk, vn, vs⟩ ars)]) c') nilA))) := SAt.qset (SAt.pset (st := s3) ⟨hpq, ⟨x0, hx0⟩, ⟨y0, hy0⟩, ho', hg', hp', hq'⟩)
  have fin1 := hk _ c' hs7
  unfold updA setsA at fin1
  rw [List.map_append, List.map_singleton, es] at fin1
  unfold updA setsA at hq'
  cases bb with
  | true =>
    repeat' (first | refine S.nilK ?_ | (refine S.op rfl ?_; first | (show ROpS _ _ (.call 30 _) _ _ _; refine callPC rfl rfl c4 (by repeat' (first | assumption | refine Glob.setP ?_ (by (repeat' (first | assumption)); first | done | fail))) (by (repeat' (first | assumption | refine AHeap.so ?_ ?_)); first | done | fail) (by repeat' (first | (apply AHeap.upd1; · exact (by first | assumption)) | exact rfl)) ?_) | refine R.mv rfl ?_ | refine R.fieldAddr rfl ?_ | refine R.nilCheck rfl ?_ | refine R.not rfl ?_) | (refine S.op0 rfl ?_; first | refine S.storeN rfl rfl (by (repeat' (first | assumption)); first | done | fail) rfl rfl rfl (by rfl) rfl (by repeat' (first | exact rfl)) ?_) | refine S.seq ?_ | refine S.region ?_ | refine S.condF rfl ?_ | refine RRun.skip ?_ | refine RRun.inBlock ?_)
    exact S.keep [0, 1] rfl fin1
  | false =>
    repeat' (first | refine S.nilK ?_ | (refine S.op rfl ?_; first | (show ROpS _ _ (.call 30 _) _ _ _; refine callPC rfl rfl c4 (by repeat' (first | assumption | refine Glob.setP ?_ (by (repeat' (first | assumption)); first | done | fail))) (by (repeat' (first | assumption | refine AHeap.so ?_ ?_)); first | done | fail) (by repeat' (first | (apply AHeap.upd1; · exact (by first | assumption)) | exact rfl)) ?_) | refine R.mv rfl ?_ | refine R.fieldAddr rfl ?_ | refine R.nilCheck rfl ?_ | refine R.not rfl ?_) | (refine S.op0 rfl ?_; first | refine S.storeN rfl rfl (by (repeat' (first | assumption)); first | done | fail) rfl rfl rfl (by rfl) rfl (by repeat' (first | exact rfl)) ?_) | refine S.seq ?_ | refine S.region ?_ | refine S.condT rfl ?_ | refine RRun.exit rfl ?_)
    exact S.keep [0, 1] rfl fin1
theorem upd_loop (hT : TOk T) (tn : List UInt8) : ∀ (m : Nat) (st : PS), T.length - st.i < m → st.i ≤ T.length → st.d ≤ 20 → ∃ (l2 : List (List UInt8 × Pa.Ex)) (st2 : PS), Goes T st st2 ∧
    ∀ (p q : Nat) (h₀ h : AHeap) (sets : List (List UInt8 × Pa.Ex)) (c : Cap) (k : List RT) (Q : AV → AHeap → Prop), sets.length + (T.length - st.i) ≤ 1000 → SAt T fin p q h₀ st c (updA tn (setsA sets c) nilA) h →
      (∀ h' c', SAt T fin p q h₀ st2 c' (updA tn (setsA (sets ++ l2) c') nilA) h' → RRun Try.prog Try.f33 43 k (Env.get [(0, ptr p), (1, ptr q)]) h' Q) →
      RRun Try.prog Try.f33 43 (.inLoop r33l0 :: .inBlock 0 :: k) (Env.get [(0, ptr p), (1, ptr q)]) h Q := by
  intro m
  induction m with
  | zero => intro st h0; omega
  | succ m ih =>
    intro st hm hi hd
    have c1 := name_spec (fin := fin) hT st
    have g1 := goes_name (fin := fin) (st := st) hi
    generalize nameP T fin st = r at c1 g1
    obtain ⟨nm, s1⟩ := r
    simp only at c1 g1
    have c2 := need_spec (T := T) (fin := fin) hT.len [[61]] (by decide) .full s1
    have g2 := goes_need (fin := fin) (st := s1) g1.2.1 [[61]]
    generalize needP T fin s1 [[61]] = s2 at c2 g2
    obtain ⟨e, s3, g3, c3⟩ := expr_ex (fin := fin) hT s2 g2.2.1 (by have := (g1.trans g2).2.2; omega)
    obtain ⟨b, s4, g4, hb, c4⟩ := take_any (fin := fin) hT s3 g3.2.1 [44]
    have g123 := g1.trans (g2.trans g3)
    have gg := g123.trans g4
    cases b with
    | true =>
      have h1 := hb rfl
      have h2 := g123.1
      have h3 := g4.2.1
      obtain ⟨l2, s5, g5, H⟩ := ih s4 (by omega) g4.2.1 (by have := gg.2.2; omega)
      refine ⟨(nm, e) :: l2, s5, gg.trans g5, ?_⟩
      intro p q h₀ h sets c k Q hlen hs hk
      refine upd_round tn nm e true st s1 s2 s3 s4 c1 c2 c3 c4 p q h₀ h sets c k Q (by omega) hs (fun h' c' a => ?_)
      rw [if_pos rfl]
      refine H p q h₀ h' (sets ++ [(nm, e)]) c' k Q (by simp only [List.length_append, List.length_singleton]; omega) a (fun h2 c2 b1 => ?_)
      have := hk h2 c2
      rw [List.append_assoc] at b1
      exact this b1
    | false =>
      refine ⟨[(nm, e)], s4, gg, ?_⟩
      intro p q h₀ h sets c k Q hlen hs hk
      refine upd_round tn nm e false st s1 s2 s3 s4 c1 c2 c3 c4 p q h₀ h sets c k Q (by omega) hs (fun h' c' a => ?_)
      rw [if_neg (by decide)]
      exact hk h' c' a
theorem update_ex (hT : TOk T) (st : PS) (hi : st.i ≤ T.length) (hd : st.d ≤ 20) : ∃ (S' : List AV) (st' : PS), S'.length = 20 ∧ S'.all AV.one = true ∧ IsSt S' ∧ Goes T st st' ∧ SP T fin 33 zeroS st S' st' := by
  have c2 := name_spec (fin := fin) hT st
  have g2 := goes_name (fin := fin) (st := st) hi
  generalize nameP T fin st = r at c2 g2
  obtain ⟨tn, s2⟩ := r
  simp only at c2 g2
  have c3 := need_spec (T := T) (fin := fin) hT.len [[115, 101, 116]] (by decide) .full s2
  have g3 := goes_need (fin := fin) (st := s2) g2.2.1 [[115, 101, 116]]
  generalize needP T fin s2 [[115, 101, 116]] = s3 at c3 g3
  have hl4 := hT.len
  have gg := g2.trans g3
  obtain ⟨l2, s4, g4, H⟩ := upd_loop (fin := fin) hT tn (T.length - s3.i + 1) s3 (by omega) g3.2.1 (by have := gg.2.2; omega)
  have g24 := gg.trans g4
  obtain ⟨wh, s5, g5, c5⟩ := where_ex (fin := fin) hT s4 g4.2.1 (by have := g24.2.2; omega) [119, 104, 101, 114, 101]
  refine ⟨updA tn (setsA l2 .ro) (exs wh), s5, rfl, rfl, isSt_of nil_cols nil_ints nil_rows (.refl _) (.of _) .nil (.of _) (.of _) .nil (.of _) .nil .nil (.of _) (.of _), g24.trans g5, ?_⟩
  intro p q h hpq hg hp hq
  obtain ⟨c', hc1, hc2⟩ := res33
  refine ACalls.weak (ACalls.enter Try.func33 hc1 Try.ntmps33 hc2 (Nat.le_of_ble_eq_true rfl) rfl ?_)
  have hqp := Ne.symm hpq
  have hs0 : SAt T fin p q h s3 .full (updA tn (setsA [] .full) nilA) ((h.set p (.box (pst T fin s3))).set q (.box (updA tn (setsA [] .full) nilA))) := ⟨hpq, ⟨_, hp⟩, ⟨_, hq⟩, ((OAt.start h [p, q]).set hp (by simp)).set hq (by simp), (hg.setP hp).setP ((AHeap.set_other _ _ hqp).trans hq), (AHeap.set_other _ _ hpq).trans (AHeap.set_same _ _ _), AHeap.set_same _ _ _⟩
  have hle : ((h.set p (.box (pst T fin s3))).set q (.box (updA tn (setsA [] .full) nilA))).le ((h.set q (.box (updA tn nilA nilA))).set p (.box (pst T fin s3))) := by
    rw [AHeap.set_comm _ _ _ hpq]
    exact ((AHeap.le.refl h).bothW q (.box (by unfold updA; repeat' (first | exact ALes.nil | refine ALes.cons ?_ ?_ | exact ALe.refl _ | exact ALe.nilSl 9 (c := .full) trivial)))).both p _
  unfold zeroS nilA at *
  unfold updA at hle
  repeat' (first | refine S.nilK ?_ | (refine S.op rfl ?_; first | (show ROpS _ _ (.call 35 _) _ _ _; refine callPC rfl rfl c2 (by repeat' (first | assumption)) (by (repeat' (first | assumption)); first | done | fail) (by repeat' (first | exact rfl)) ?_) | (show ROpS _ _ (.call 34 _) _ _ _; refine callPCU rfl rfl c3 (by repeat' (first | assumption | refine Glob.setP ?_ (by (repeat' (first | assumption | refine AHeap.so ?_ ?_)); first | done | fail))) (by (repeat' (first | exact AHeap.set_same _ _ _)); first | done | fail) (by repeat' (first | exact AHeap.set_set _ _ _ _)) (fun x => ?_)) | refine R.mv rfl ?_ | refine R.fieldAddr rfl ?_ | refine R.nilCheck rfl ?_ | refine R.buildSl rfl rfl rfl (by decide) ?_) | (refine S.op0 rfl ?_; first | refine S.storeN rfl rfl (by (repeat' (first | assumption | exact AHeap.set_same _ _ _ | refine AHeap.so ?_ ?_)); first | done | fail) rfl rfl rfl (by rfl) rfl (by repeat' (first | exact AHeap.set_set _ _ _ _ | (apply AHeap.upd1; · exact (by first | assumption)) | exact rfl)) ?_) | refine S.seq ?_ | refine S.region ?_ | refine RRun.skip ?_ | refine RRun.block ?_)
  refine RRun.sub hle (RRun.loopIn (S.keep [0, 1] rfl (H p q h _ [] .full _ _ (by simp only [List.length_nil]; omega) hs0 fun h2 c2 hs2 => ?_)))
  obtain ⟨hle2, hs3⟩ := hs2.sub hg (A' := updA tn (setsA l2 .ro) nilA) (.cons (.refl _) (.cons (.refl _) (.cons (.refl _) (.cons (.refl _) (.cons (.refl _) (.cons (.refl _) (.cons (.refl _) (.cons (.refl _) (.cons (.toRo _ _ _) (.refl _))))))))))
  refine RRun.sub hle2 ?_
  have hg3 := hs3.glob
  have hp3 := hs3.p
  have hq3 := hs3.q
  have e3 : (((h.set p (.box (pst T fin s4))).set q (.box (updA tn (setsA l2 .ro) nilA))).set p (.box (pst T fin s5))).set q (.box (updA tn (setsA l2 .ro) (exs wh))) = (h.set p (.box (pst T fin s5))).set q (.box (updA tn (setsA l2 .ro) (exs wh))) := by
    rw [AHeap.set_comm _ _ _ hqp, AHeap.set_set, AHeap.set_set]
  rw [← e3]
  generalize ((h.set p (.box (pst T fin s4))).set q (.box (updA tn (setsA l2 .ro) nilA))) = h3 at hg3 hp3 hq3
  unfold updA nilA at *
  repeat' (first | refine S.nilK ?_ | (refine S.op rfl ?_; first | (show ROpS _ _ (.call 36 _) _ _ _; refine callPC rfl rfl c5 (by repeat' (first | assumption)) (by (repeat' (first | assumption)); first | done | fail) (by repeat' (first | exact rfl)) ?_) | refine R.mv rfl ?_ | refine R.fieldAddr rfl ?_ | refine R.nilCheck rfl ?_) | (refine S.op0 rfl ?_; first | refine S.storeN rfl rfl (by (repeat' (first | assumption | refine AHeap.so ?_ ?_)); first | done | fail) rfl rfl rfl (by rfl) rfl (by repeat' (first | (apply AHeap.upd1; · exact (by first | assumption)) | exact rfl)) ?_) | refine S.region ?_)
  apply S.done rr33
  case hx => repeat (first | exact ResAt.nil)
  exact ⟨_, _, .refl _, (by rw [AHeap.set_comm _ _ _ hpq]; exact AHeap.le.refl _), rfl⟩
end
end Go.Proofs.Ytdinnoejipmiiaa

namespace Go.Proofs.Ytdinnoejipmiiaa
open Go.Av
open Go.Av.Pa (PS atP isP wrongP takeP needP kindP nameP opsP operatorP enterP ev exprP expressionP)
section
variable {T : List Tok} {fin : Int}
def chA (a b c d e f g i j k : AV) : List AV :=
  [i64 5, str [], i64 0, str [], nilA, i64 0, nilA, nilA, nilA, a, b, c, d, e, f, g, i, j, k, i64 0]
def r37 : RCode :=
  (.seq (.region [
    ⟨(some 4), none, .act, .mv (.tmp 1)⟩,
    ⟨(some 5), none, .act, .nilCheck (.tmp 4)⟩,
    ⟨(some 6), none, .act, .fieldAddr 0 (.tmp 5)⟩,
    ⟨none, none, .act, .store 1 (.tmp 6) (.const (.int .i64 5))⟩])
  (.seq (.seq (.region [
    ⟨(some 7), none, .act, .mv (.tmp 1)⟩,
    ⟨(some 8), none, .act, .mv (.tmp 0)⟩,
    ⟨(some 9), none, .act, .call 30 [(.tmp 8), (.const (.string ⟨#[42]⟩))]⟩,
    ⟨(some 10), none, .act, .nilCheck (.tmp 7)⟩,
    ⟨(some 11), none, .act, .fieldAddr 9 (.tmp 10)⟩,
    ⟨none, none, .act, .store 1 (.tmp 11) (.tmp 9)⟩])
  (.seq (.region [
    ⟨(some 12), none, .act, .mv (.tmp 1)⟩,
    ⟨(some 13), none, .act, .nilCheck (.tmp 12)⟩,
    ⟨(some 14), none, .act, .fieldAddr 9 (.tmp 13)⟩,
    ⟨(some 15), none, .act, .load false 1 (.tmp 14)⟩,
    ⟨(some 16), none, .act, .un .not (.tmp 15)⟩])
  (.cond (.tmp 16)
   (.region [
     ⟨(some 17), none, .act, .mv (.tmp 1)⟩,
     ⟨(some 18), none, .act, .mv (.tmp 0)⟩,
     ⟨(some 19), none, .act, .call 50 [(.tmp 18)]⟩,
     ⟨(some 20), none, .act, .nilCheck (.tmp 17)⟩,
     ⟨(some 21), none, .act, .fieldAddr 10 (.tmp 20)⟩,
     ⟨none, none, .act, .store 1 (.tmp 21) (.tmp 19)⟩])
   .skip)))
  (.seq (.region [
    ⟨(some 22), none, .act, .mv (.tmp 0)⟩,
    ⟨(some 23), none, .act, .buildSl 1 [(.string ⟨#[]⟩)] 1 [(0, (.const (.string ⟨#[102, 114, 111, 109]⟩)))]⟩,
    ⟨(some 24), none, .act, .call 34 [(.tmp 22), (.tmp 23)]⟩])
  (.seq (.region [
    ⟨(some 25), none, .act, .mv (.tmp 1)⟩,
    ⟨(some 26), none, .act, .mv (.tmp 0)⟩,
    ⟨(some 27), none, .act, .call 35 [(.tmp 26)]⟩,
    ⟨(some 28), none, .act, .nilCheck (.tmp 25)⟩,
    ⟨(some 29), none, .act, .fieldAddr 11 (.tmp 28)⟩,
    ⟨none, none, .act, .store 1 (.tmp 29) (.tmp 27)⟩])
  (.seq (.seq (.region [
    ⟨(some 30), none, .act, .mv (.tmp 0)⟩,
    ⟨(some 31), none, .act, .call 30 [(.tmp 30), (.const (.string ⟨#[106, 111, 105, 110]⟩))]⟩])
  (.cond (.tmp 31)
   (.seq (.region [
     ⟨(some 32), none, .act, .mv (.tmp 1)⟩,
     ⟨(some 33), none, .act, .mv (.tmp 0)⟩,
     ⟨(some 34), none, .act, .call 35 [(.tmp 33)]⟩,
     ⟨(some 35), none, .act, .nilCheck (.tmp 32)⟩,
     ⟨(some 36), none, .act, .fieldAddr 12 (.tmp 35)⟩,
     ⟨none, none, .act, .store 1 (.tmp 36) (.tmp 34)⟩])
   (.seq (.region [
     ⟨(some 37), none, .act, .mv (.tmp 0)⟩,
     ⟨(some 38), none, .act, .buildSl 1 [(.string ⟨#[]⟩)] 1 [(0, (.const (.string ⟨#[111, 110]⟩)))]⟩,
     ⟨(some 39), none, .act, .call 34 [(.tmp 37), (.tmp 38)]⟩])
   (.region [
     ⟨(some 40), none, .act, .mv (.tmp 1)⟩,
     ⟨(some 41), none, .act, .mv (.tmp 0)⟩,
     ⟨(some 42), none, .act, .call 12 [(.tmp 41)]⟩,
     ⟨(some 43), none, .act, .buildSl 8 [(.int .i64 0), (.string ⟨#[]⟩), (.string ⟨#[]⟩), (.int .i64 0), (.int .i64 0), (.int .i64 0), (.string ⟨#[]⟩), (.slice none 0 0)] 1 [(0, (.tmp 42))]⟩,
     ⟨(some 44), none, .act, .nilCheck (.tmp 40)⟩,
     ⟨(some 45), none, .act, .fieldAddr 13 (.tmp 44)⟩,
     ⟨none, none, .act, .store 1 (.tmp 45) (.tmp 43)⟩])))
   .skip))
  (.seq (.region [
    ⟨(some 46), none, .act, .mv (.tmp 1)⟩,
    ⟨(some 47), none, .act, .mv (.tmp 0)⟩,
    ⟨(some 48), none, .act, .call 36 [(.tmp 47), (.const (.string ⟨#[119, 104, 101, 114, 101]⟩))]⟩,
    ⟨(some 49), none, .act, .nilCheck (.tmp 46)⟩,
    ⟨(some 50), none, .act, .fieldAddr 14 (.tmp 49)⟩,
    ⟨none, none, .act, .store 1 (.tmp 50) (.tmp 48)⟩])
  (.seq (.seq (.region [
    ⟨(some 51), none, .act, .mv (.tmp 0)⟩,
    ⟨(some 52), none, .act, .call 30 [(.tmp 51), (.const (.string ⟨#[103, 114, 111, 117, 112]⟩))]⟩])
  (.cond (.tmp 52)
   (.seq (.region [
     ⟨(some 53), none, .act, .mv (.tmp 0)⟩,
     ⟨(some 54), none, .act, .buildSl 1 [(.string ⟨#[]⟩)] 1 [(0, (.const (.string ⟨#[98, 121]⟩)))]⟩,
     ⟨(some 55), none, .act, .call 34 [(.tmp 53), (.tmp 54)]⟩])
   (.region [
     ⟨(some 56), none, .act, .mv (.tmp 1)⟩,
     ⟨(some 57), none, .act, .mv (.tmp 0)⟩,
     ⟨(some 58), none, .act, .call 50 [(.tmp 57)]⟩,
     ⟨(some 59), none, .act, .nilCheck (.tmp 56)⟩,
     ⟨(some 60), none, .act, .fieldAddr 15 (.tmp 59)⟩,
     ⟨none, none, .act, .store 1 (.tmp 60) (.tmp 58)⟩]))
   .skip))
  (.seq (.seq (.region [
    ⟨(some 61), none, .act, .mv (.tmp 0)⟩,
    ⟨(some 62), none, .act, .call 30 [(.tmp 61), (.const (.string ⟨#[111, 114, 100, 101, 114]⟩))]⟩])
  (.cond (.tmp 62)
   (.seq (.region [
     ⟨(some 63), none, .act, .mv (.tmp 0)⟩,
     ⟨(some 64), none, .act, .buildSl 1 [(.string ⟨#[]⟩)] 1 [(0, (.const (.string ⟨#[98, 121]⟩)))]⟩,
     ⟨(some 65), none, .act, .call 34 [(.tmp 63), (.tmp 64)]⟩])
   (.region [
     ⟨(some 66), none, .act, .mv (.tmp 1)⟩,
     ⟨(some 67), none, .act, .mv (.tmp 0)⟩,
     ⟨(some 68), none, .act, .call 52 [(.tmp 67)]⟩,
     ⟨(some 69), none, .act, .nilCheck (.tmp 66)⟩,
     ⟨(some 70), none, .act, .fieldAddr 16 (.tmp 69)⟩,
     ⟨none, none, .act, .store 1 (.tmp 70) (.tmp 68)⟩]))
   .skip))
  (.seq (.seq (.region [
    ⟨(some 71), none, .act, .mv (.tmp 0)⟩,
    ⟨(some 72), none, .act, .call 30 [(.tmp 71), (.const (.string ⟨#[108, 105, 109, 105, 116]⟩))]⟩])
  (.cond (.tmp 72)
   (.region [
     ⟨(some 73), none, .act, .mv (.tmp 1)⟩,
     ⟨(some 74), none, .act, .mv (.tmp 0)⟩,
     ⟨(some 75), none, .act, .call 53 [(.tmp 74)]⟩,
     ⟨(some 76), none, .act, .nilCheck (.tmp 73)⟩,
     ⟨(some 77), none, .act, .fieldAddr 17 (.tmp 76)⟩,
     ⟨none, none, .act, .store 1 (.tmp 77) (.tmp 75)⟩])
   .skip))
  (.seq (.region [
    ⟨(some 78), none, .act, .mv (.tmp 0)⟩,
    ⟨(some 79), none, .act, .call 30 [(.tmp 78), (.const (.string ⟨#[102, 111, 114]⟩))]⟩])
  (.cond (.tmp 79)
   (.seq (.region [
     ⟨(some 80), none, .act, .mv (.tmp 0)⟩,
     ⟨(some 81), none, .act, .buildSl 1 [(.string ⟨#[]⟩)] 1 [(0, (.const (.string ⟨#[117, 112, 100, 97, 116, 101]⟩)))]⟩,
     ⟨(some 82), none, .act, .call 34 [(.tmp 80), (.tmp 81)]⟩])
   (.region [
     ⟨(some 83), none, .act, .mv (.tmp 1)⟩,
     ⟨(some 84), none, .act, .nilCheck (.tmp 83)⟩,
     ⟨(some 85), none, .act, .fieldAddr 18 (.tmp 84)⟩,
     ⟨none, none, .act, .store 1 (.tmp 85) (.const (.bool true))⟩]))
   .skip)))))))))))
theorem res37 : ∃ c, Try.f37.body = some c ∧ resCode Try.prog 86 c = some r37 := ⟨_, rfl, by kernel_rfl⟩
theorem rr37 : resRes Try.prog Try.f37.results.toList = some [] := by kernel_rfl
def r37a : RCode :=
  (.region [
    ⟨(some 4), none, .act, .mv (.tmp 1)⟩,
    ⟨(some 5), none, .act, .nilCheck (.tmp 4)⟩,
    ⟨(some 6), none, .act, .fieldAddr 0 (.tmp 5)⟩,
    ⟨none, none, .act, .store 1 (.tmp 6) (.const (.int .i64 5))⟩])
def r37b : RCode :=
  (.seq (.region [
    ⟨(some 7), none, .act, .mv (.tmp 1)⟩,
    ⟨(some 8), none, .act, .mv (.tmp 0)⟩,
    ⟨(some 9), none, .act, .call 30 [(.tmp 8), (.const (.string ⟨#[42]⟩))]⟩,
    ⟨(some 10), none, .act, .nilCheck (.tmp 7)⟩,
    ⟨(some 11), none, .act, .fieldAddr 9 (.tmp 10)⟩,
    ⟨none, none, .act, .store 1 (.tmp 11) (.tmp 9)⟩])
  (.seq (.region [
    ⟨(some 12), none, .act, .mv (.tmp 1)⟩,
    ⟨(some 13), none, .act, .nilCheck (.tmp 12)⟩,
    ⟨(some 14), none, .act, .fieldAddr 9 (.tmp 13)⟩,
    ⟨(some 15), none, .act, .load false 1 (.tmp 14)⟩,
    ⟨(some 16), none, .act, .un .not (.tmp 15)⟩])
  (.cond (.tmp 16)
   (.region [
     ⟨(some 17), none, .act, .mv (.tmp 1)⟩,
     ⟨(some 18), none, .act, .mv (.tmp 0)⟩,
     ⟨(some 19), none, .act, .call 50 [(.tmp 18)]⟩,
     ⟨(some 20), none, .act, .nilCheck (.tmp 17)⟩,
     ⟨(some 21), none, .act, .fieldAddr 10 (.tmp 20)⟩,
     ⟨none, none, .act, .store 1 (.tmp 21) (.tmp 19)⟩])
   .skip)))
def r37c : RCode :=
  (.region [
    ⟨(some 22), none, .act, .mv (.tmp 0)⟩,
    ⟨(some 23), none, .act, .buildSl 1 [(.string ⟨#[]⟩)] 1 [(0, (.const (.string ⟨#[102, 114, 111, 109]⟩)))]⟩,
    ⟨(some 24), none, .act, .call 34 [(.tmp 22), (.tmp 23)]⟩])
def r37d : RCode :=
  (.region [
    ⟨(some 25), none, .act, .mv (.tmp 1)⟩,
    ⟨(some 26), none, .act, .mv (.tmp 0)⟩,
    ⟨(some 27), none, .act, .call 35 [(.tmp 26)]⟩,
    ⟨(some 28), none, .act, .nilCheck (.tmp 25)⟩,
    ⟨(some 29), none, .act, .fieldAddr 11 (.tmp 28)⟩,
    ⟨none, none, .act, .store 1 (.tmp 29) (.tmp 27)⟩])
def r37j : RCode :=
  (.seq (.region [
    ⟨(some 30), none, .act, .mv (.tmp 0)⟩,
    ⟨(some 31), none, .act, .call 30 [(.tmp 30), (.const (.string ⟨#[106, 111, 105, 110]⟩))]⟩])
  (.cond (.tmp 31)
   (.seq (.region [
     ⟨(some 32), none, .act, .mv (.tmp 1)⟩,
     ⟨(some 33), none, .act, .mv (.tmp 0)⟩,
     ⟨(some 34), none, .act, .call 35 [(.tmp 33)]⟩,
     ⟨(some 35), none, .act, .nilCheck (.tmp 32)⟩,
     ⟨(some 36), none, .act, .fieldAddr 12 (.tmp 35)⟩,
     ⟨none, none, .act, .store 1 (.tmp 36) (.tmp 34)⟩])
   (.seq (.region [
     ⟨(some 37), none, .act, .mv (.tmp 0)⟩,
     ⟨(some 38), none, .act, .buildSl 1 [(.string ⟨#[]⟩)] 1 [(0, (.const (.string ⟨#[111, 110]⟩)))]⟩,
     ⟨(some 39), none, .act, .call 34 [(.tmp 37), (.tmp 38)]⟩])
   (.region [
     ⟨(some 40), none, .act, .mv (.tmp 1)⟩,
     ⟨(some 41), none, .act, .mv (.tmp 0)⟩,
     ⟨(some 42), none, .act, .call 12 [(.tmp 41)]⟩,
     ⟨(some 43), none, .act, .buildSl 8 [(.int .i64 0), (.string ⟨#[]⟩), (.string ⟨#[]⟩), (.int .i64 0), (.int .i64 0), (.int .i64 0), (.string ⟨#[]⟩), (.slice none 0 0)] 1 [(0, (.tmp 42))]⟩,
     ⟨(some 44), none, .act, .nilCheck (.tmp 40)⟩,
     ⟨(some 45), none, .act, .fieldAddr 13 (.tmp 44)⟩,
     ⟨none, none, .act, .store 1 (.tmp 45) (.tmp 43)⟩])))
   .skip))
def r37w : RCode :=
  (.region [
    ⟨(some 46), none, .act, .mv (.tmp 1)⟩,
    ⟨(some 47), none, .act, .mv (.tmp 0)⟩,
    ⟨(some 48), none, .act, .call 36 [(.tmp 47), (.const (.string ⟨#[119, 104, 101, 114, 101]⟩))]⟩,
    ⟨(some 49), none, .act, .nilCheck (.tmp 46)⟩,
    ⟨(some 50), none, .act, .fieldAddr 14 (.tmp 49)⟩,
    ⟨none, none, .act, .store 1 (.tmp 50) (.tmp 48)⟩])
def r37g : RCode :=
  (.seq (.region [
    ⟨(some 51), none, .act, .mv (.tmp 0)⟩,
    ⟨(some 52), none, .act, .call 30 [(.tmp 51), (.const (.string ⟨#[103, 114, 111, 117, 112]⟩))]⟩])
  (.cond (.tmp 52)
   (.seq (.region [
     ⟨(some 53), none, .act, .mv (.tmp 0)⟩,
     ⟨(some 54), none, .act, .buildSl 1 [(.string ⟨#[]⟩)] 1 [(0, (.const (.string ⟨#[98, 121]⟩)))]⟩,
     ⟨(some 55), none, .act, .call 34 [(.tmp 53), (.tmp 54)]⟩])
   (.region [
     ⟨(some 56), none, .act, .mv (.tmp 1)⟩,
     ⟨(some 57), none, .act, .mv (.tmp 0)⟩,
     ⟨(some 58), none, .act, .call 50 [(.tmp 57)]⟩,
     ⟨(some 59), none, .act, .nilCheck (.tmp 56)⟩,
     ⟨(some 60), none, .act, .fieldAddr 15 (.tmp 59)⟩,
     ⟨none, none, .act, .store 1 (.tmp 60) (.tmp 58)⟩]))
   .skip))
def r37o : RCode :=
  (.seq (.region [
    ⟨(some 61), none, .act, .mv (.tmp 0)⟩,
    ⟨(some 62), none, .act, .call 30 [(.tmp 61), (.const (.string ⟨#[111, 114, 100, 101, 114]⟩))]⟩])
  (.cond (.tmp 62)
   (.seq (.region [
     ⟨(some 63), none, .act, .mv (.tmp 0)⟩,
     ⟨(some 64), none, .act, .buildSl 1 [(.string ⟨#[]⟩)] 1 [(0, (.const (.string ⟨#[98, 121]⟩)))]⟩,
     ⟨(some 65), none, .act, .call 34 [(.tmp 63), (.tmp 64)]⟩])
   (.region [
     ⟨(some 66), none, .act, .mv (.tmp 1)⟩,
     ⟨(some 67), none, .act, .mv (.tmp 0)⟩,
     ⟨(some 68), none, .act, .call 52 [(.tmp 67)]⟩,
     ⟨(some 69), none, .act, .nilCheck (.tmp 66)⟩,
     ⟨(some 70), none, .act, .fieldAddr 16 (.tmp 69)⟩,
     ⟨none, none, .act, .store 1 (.tmp 70) (.tmp 68)⟩]))
   .skip))
def r37l : RCode :=
  (.seq (.region [
    ⟨(some 71), none, .act, .mv (.tmp 0)⟩,
    ⟨(some 72), none, .act, .call 30 [(.tmp 71), (.const (.string ⟨#[108, 105, 109, 105, 116]⟩))]⟩])
  (.cond (.tmp 72)
   (.region [
     ⟨(some 73), none, .act, .mv (.tmp 1)⟩,
     ⟨(some 74), none, .act, .mv (.tmp 0)⟩,
     ⟨(some 75), none, .act, .call 53 [(.tmp 74)]⟩,
     ⟨(some 76), none, .act, .nilCheck (.tmp 73)⟩,
     ⟨(some 77), none, .act, .fieldAddr 17 (.tmp 76)⟩,
     ⟨none, none, .act, .store 1 (.tmp 77) (.tmp 75)⟩])
   .skip))
def r37f : RCode :=
  (.seq (.region [
    ⟨(some 78), none, .act, .mv (.tmp 0)⟩,
    ⟨(some 79), none, .act, .call 30 [(.tmp 78), (.const (.string ⟨#[102, 111, 114]⟩))]⟩])
  (.cond (.tmp 79)
   (.seq (.region [
     ⟨(some 80), none, .act, .mv (.tmp 0)⟩,
     ⟨(some 81), none, .act, .buildSl 1 [(.string ⟨#[]⟩)] 1 [(0, (.const (.string ⟨#[117, 112, 100, 97, 116, 101]⟩)))]⟩,
     ⟨(some 82), none, .act, .call 34 [(.tmp 80), (.tmp 81)]⟩])
   (.region [
     ⟨(some 83), none, .act, .mv (.tmp 1)⟩,
     ⟨(some 84), none, .act, .nilCheck (.tmp 83)⟩,
     ⟨(some 85), none, .act, .fieldAddr 18 (.tmp 84)⟩,
     ⟨none, none, .act, .store 1 (.tmp 85) (.const (.bool true))⟩]))
   .skip))
def Stg (T : List Tok) (fin : Int) (code : RCode) (st : PS) (S : List AV) (st' : PS) (S' : List AV) : Prop :=
  ∀ (p q : Nat) (h : AHeap) (k : List RT) (Q : AV → AHeap → Prop), p ≠ q → Glob h → h p = some (.box (pst T fin st)) → h q = some (.box S) →
    RRun Try.prog Try.f37 86 k (Env.get [(0, ptr p), (1, ptr q)]) ((h.set q (.box S')).set p (.box (pst T fin st'))) Q → RRun Try.prog Try.f37 86 (.code code :: k) (Env.get [(0, ptr p), (1, ptr q)]) h Q
theorem Stg.weak {code : RCode} {st st' : PS} {S S' S'' : List AV} (H : Stg T fin code st S st' S') (hA : ALes S' S'') : Stg T fin code st S st' S'' := fun p q h k Q hpq hg hp hq hk =>
  H p q h k Q hpq hg hp hq (RRun.sub (((AHeap.le.refl h).bothW q (.box hA)).both p _) hk)
theorem Stg.at {code : RCode} {st st' : PS} {S S' : List AV} (H : Stg T fin code st S st' S') {p q : Nat} {h : AHeap} {k : List RT} {Q : AV → AHeap → Prop} {s0 : PS} {S0 : List AV} (hpq : p ≠ q) (hg : Glob h) (hp : h p = some (.box (pst T fin s0))) (hq : h q = some (.box S0))
    (hk : RRun Try.prog Try.f37 86 k (Env.get [(0, ptr p), (1, ptr q)]) ((h.set q (.box S')).set p (.box (pst T fin st'))) Q) : RRun Try.prog Try.f37 86 (.code code :: k) (Env.get [(0, ptr p), (1, ptr q)]) ((h.set q (.box S)).set p (.box (pst T fin st))) Q := by
  have hqp := Ne.symm hpq
  refine H p q _ k Q hpq ((hg.setP hq).setP ((AHeap.set_other _ _ hpq).trans hp)) (AHeap.set_same _ _ _) ((AHeap.set_other _ _ hqp).trans (AHeap.set_same _ _ _)) ?_
  have e : (((h.set q (.box S)).set p (.box (pst T fin st))).set q (.box S')).set p (.box (pst T fin st')) = (h.set q (.box S')).set p (.box (pst T fin st')) := by
    rw [AHeap.set_comm _ _ _ hpq, AHeap.set_set, AHeap.set_set]
  rw [e]
  exact hk
theorem ch_star (hT : TOk T) (st : PS) (hi : st.i ≤ T.length) (hd : st.d ≤ 20) : ∃ (a b : AV) (st' : PS), (a.one && b.one) = true ∧ (IsB a ∧ IsE b) ∧ Goes T st st' ∧ ∀ (c d e f g i j k : AV), Stg T fin r37b st (chA (bl false) nilA c d e f g i j k) st' (chA a b c d e f g i j k) := by
  obtain ⟨bb, s1, g1, _, ct⟩ := take_any (fin := fin) hT st hi [42]
  cases bb with
  | true =>
    refine ⟨bl true, nilA, s1, rfl, ⟨.of _, .nil⟩, g1, ?_⟩
    intro c d e f g i j k p q h kk Q hpq hg hp hq hk
    have hqp := Ne.symm hpq
    unfold chA at hq hk
    unfold r37b
    repeat' (first | refine S.nilK ?_ | (refine S.op rfl ?_; first | (show ROpS _ _ (.call 30 _) _ _ _; refine callPC rfl rfl ct (by repeat' (first | assumption)) (by (repeat' (first | assumption)); first | done | fail) (by repeat' (first | exact rfl)) ?_) | refine R.mv rfl ?_ | refine R.fieldAddr rfl ?_ | refine R.nilCheck rfl ?_ | refine R.load (by decide) rfl (by (repeat' (first | assumption | exact AHeap.set_same _ _ _ | refine AHeap.so ?_ ?_)); first | done | fail) rfl ?_ | refine R.not rfl ?_) | (refine S.op0 rfl ?_; first | refine S.storeN rfl rfl (by (repeat' (first | assumption | refine AHeap.so ?_ ?_)); first | done | fail) rfl rfl rfl (by rfl) rfl (by repeat' (first | (apply AHeap.upd1; · exact (by first | assumption)) | exact rfl)) ?_) | refine S.seq ?_ | refine S.region ?_ | refine S.condF rfl ?_ | refine RRun.skip ?_)
    exact S.keep [0, 1] rfl hk
  | false =>
    obtain ⟨l, s2, g2, c2⟩ := list_ex (fin := fin) hT s1 g1.2.1 (by have := g1.2.2; omega)
    refine ⟨bl false, exs l, s2, rfl, ⟨.of _, .of _⟩, g1.trans g2, ?_⟩
    intro c d e f g i j k p q h kk Q hpq hg hp hq hk
    have hqp := Ne.symm hpq
    unfold chA at hq hk
    unfold r37b
    repeat' (first | refine S.nilK ?_ | (refine S.op rfl ?_; first | (show ROpS _ _ (.call 30 _) _ _ _; refine callPC rfl rfl ct (by repeat' (first | assumption)) (by (repeat' (first | assumption)); first | done | fail) (by repeat' (first | exact rfl)) ?_) | (show ROpS _ _ (.call 50 _) _ _ _; refine callPC rfl rfl c2 (by repeat' (first | assumption | refine Glob.setP ?_ (by (repeat' (first | assumption | refine AHeap.so ?_ ?_)); first | done | fail))) (by (repeat' (first | exact AHeap.set_same _ _ _)); first | done | fail) (by repeat' (first | exact AHeap.set_set _ _ _ _)) ?_) | refine R.mv rfl ?_ | refine R.fieldAddr rfl ?_ | refine R.nilCheck rfl ?_ | refine R.load (by decide) rfl (by (repeat' (first | assumption | exact AHeap.set_same _ _ _ | refine AHeap.so ?_ ?_)); first | done | fail) rfl ?_ | refine R.not rfl ?_) | (refine S.op0 rfl ?_; first | refine S.storeN rfl rfl (by (repeat' (first | assumption | exact AHeap.set_same _ _ _ | refine AHeap.so ?_ ?_)); first | done | fail) rfl rfl rfl (by rfl) rfl (by repeat' (first | exact AHeap.set_set _ _ _ _ | (apply AHeap.upd1; · exact (by first | assumption)) | exact rfl)) ?_) | refine S.seq ?_ | refine S.region ?_ | refine S.condT rfl ?_)
    exact S.keep [0, 1] rfl hk
theorem ch_from (hT : TOk T) (st : PS) (hi : st.i ≤ T.length) : ∃ (st' : PS), Goes T st st' ∧ ∀ (a b c d e f g i j k : AV), Stg T fin r37c st (chA a b c d e f g i j k) st' (chA a b c d e f g i j k) := by
  have c1 := need_spec (T := T) (fin := fin) hT.len [[102, 114, 111, 109]] (by decide) .full st
  have g1 := goes_need (fin := fin) (st := st) hi [[102, 114, 111, 109]]
  generalize needP T fin st [[102, 114, 111, 109]] = s1 at c1 g1
  refine ⟨s1, g1, ?_⟩
  intro a b c d e f g i j k p q h kk Q hpq hg hp hq hk
  rw [AHeap.set_eq _ hq] at hk
  unfold r37c
  repeat' (first | refine S.nilK ?_ | (refine S.op rfl ?_; first | (show ROpS _ _ (.call 34 _) _ _ _; refine callPCU rfl rfl c1 (by repeat' (first | assumption)) (by (repeat' (first | assumption)); first | done | fail) (by repeat' (first | exact rfl)) (fun x => ?_)) | refine R.mv rfl ?_ | refine R.buildSl rfl rfl rfl (by decide) ?_) | refine S.region ?_)
  exact S.keep [0, 1] rfl hk
theorem ch_name (hT : TOk T) (st : PS) (hi : st.i ≤ T.length) : ∃ (c' : AV) (st' : PS), (c'.one) = true ∧ IsS c' ∧ Goes T st st' ∧ ∀ (a b c d e f g i j k : AV), Stg T fin r37d st (chA a b c d e f g i j k) st' (chA a b c' d e f g i j k) := by
  have c1 := name_spec (fin := fin) hT st
  have g1 := goes_name (fin := fin) (st := st) hi
  generalize nameP T fin st = r at c1 g1
  obtain ⟨tn, s1⟩ := r
  simp only at c1 g1
  refine ⟨str tn, s1, rfl, .of _, g1, ?_⟩
  intro a b c d e f g i j k p q h kk Q hpq hg hp hq hk
  have hqp := Ne.symm hpq
  unfold chA at hq hk
  unfold r37d
  repeat' (first | refine S.nilK ?_ | (refine S.op rfl ?_; first | (show ROpS _ _ (.call 35 _) _ _ _; refine callPC rfl rfl c1 (by repeat' (first | assumption)) (by (repeat' (first | assumption)); first | done | fail) (by repeat' (first | exact rfl)) ?_) | refine R.mv rfl ?_ | refine R.fieldAddr rfl ?_ | refine R.nilCheck rfl ?_) | (refine S.op0 rfl ?_; first | refine S.storeN rfl rfl (by (repeat' (first | assumption | refine AHeap.so ?_ ?_)); first | done | fail) rfl rfl rfl (by rfl) rfl (by repeat' (first | (apply AHeap.upd1; · exact (by first | assumption)) | exact rfl)) ?_) | refine S.region ?_)
  exact S.keep [0, 1] rfl hk
theorem ch_join (hT : TOk T) (st : PS) (hi : st.i ≤ T.length) (hd : st.d ≤ 20) : ∃ (d e : AV) (st' : PS), (d.one && e.one) = true ∧ (IsS d ∧ IsE e) ∧ Goes T st st' ∧ ∀ (a b c f g i j k : AV), Stg T fin r37j st (chA a b c (str []) nilA f g i j k) st' (chA a b c d e f g i j k) := by
  rcases take_cases (fin := fin) hT.len st [106, 111, 105, 110] with ⟨e, hlt, ct⟩ | ⟨e, ct⟩
  · clear e
    have c1 := name_spec (fin := fin) hT st.next
    have g1 := goes_name (fin := fin) (st := st.next) hlt
    generalize nameP T fin st.next = r at c1 g1
    obtain ⟨tn, s1⟩ := r
    simp only at c1 g1
    have c2 := need_spec (T := T) (fin := fin) hT.len [[111, 110]] (by decide) .full s1
    have g2 := goes_need (fin := fin) (st := s1) g1.2.1 [[111, 110]]
    generalize needP T fin s1 [[111, 110]] = s2 at c2 g2
    have g12 := (Goes.next hlt).trans (g1.trans g2)
    obtain ⟨x, s3, g3, c3⟩ := expr_ex (fin := fin) hT s2 g2.2.1 (by have := g12.2.2; omega)
    refine ⟨str tn, exs [x], s3, rfl, ⟨.of _, .of _⟩, g12.trans g3, ?_⟩
    intro a b c f g i j k
    obtain ⟨op, t, nm, n, vk, vn, vs, ars, rfl⟩ := ex_parts x
    rw [Pa.Ex.cells_mk] at c3
    refine Stg.weak (S' := chA a b c (str tn) (.sl 8 [[i64 op, str t, str nm, i64 n, i64 vk, i64 vn, str vs, .sl 8 (ars.map Pa.Ex.cells) .ro]] .full) f g i j k) ?_ (.cons (.refl _) (.cons (.refl _) (.cons (.refl _) (.cons (.refl _) (.cons (.refl _) (.cons (.refl _) (.cons (.refl _) (.cons (.refl _) (.cons (.refl _) (.cons (.refl _) (.cons (.refl _) (.cons (.refl _) (.cons (.refl _) (.cons (exs1_le (exA_ex (.refl _))) (.refl _)))))))))))))))
    intro p q h kk Q hpq hg hp hq hk
    have hqp := Ne.symm hpq
    unfold chA at hq hk
    unfold r37j
    repeat' (first | refine S.nilK ?_ | (refine S.op rfl ?_; first | (show ROpS _ _ (.call 30 _) _ _ _; refine callPC rfl rfl ct (by repeat' (first | assumption)) (by (repeat' (first | assumption)); first | done | fail) (by repeat' (first | exact rfl)) ?_) | (show ROpS _ _ (.call 35 _) _ _ _; refine callPC rfl rfl c1 (by repeat' (first | assumption | refine Glob.setP ?_ (by (repeat' (first | assumption)); first | done | fail))) (by (repeat' (first | exact AHeap.set_same _ _ _)); first | done | fail) (by repeat' (first | exact AHeap.set_set _ _ _ _)) ?_) | (show ROpS _ _ (.call 34 _) _ _ _; refine callPCU rfl rfl c2 (by repeat' (first | assumption | refine Glob.setP ?_ (by (repeat' (first | assumption | refine AHeap.so ?_ ?_)); first | done | fail))) (by (repeat' (first | exact AHeap.set_same _ _ _)); first | done | fail) (by repeat' (first | exact AHeap.set_set _ _ _ _)) (fun x => ?_)) | (show ROpS _ _ (.call 12 _) _ _ _; refine callPC rfl rfl c3 (by repeat' (first | assumption | refine Glob.setP ?_ (by (repeat' (first | assumption | refine AHeap.so ?_ ?_)); first | done | fail))) (by (repeat' (first | exact AHeap.set_same _ _ _)); first | done | fail) (by repeat' (first | exact AHeap.set_set _ _ _ _)) ?_) | refine R.mv rfl ?_ | refine R.fieldAddr rfl ?_ | refine R.nilCheck rfl ?_ | refine R.buildSl rfl rfl rfl (by decide) ?_) | (refine S.op0 rfl ?_; first | refine S.storeN rfl rfl (by (repeat' (first | assumption | exact AHeap.set_same _ _ _ | refine AHeap.so ?_ ?_)); first | done | fail) rfl rfl rfl (by rfl) rfl (by repeat' (first | exact AHeap.set_set _ _ _ _ | (apply AHeap.upd1; · exact (by first | assumption)) | exact rfl)) ?_) | refine S.seq ?_ | refine S.region ?_ | refine S.condT rfl ?_)
    exact S.keep [0, 1] rfl hk
  · clear e
    refine ⟨str [], nilA, st, rfl, ⟨.of _, .nil⟩, Goes.refl hi, ?_⟩
    intro a b c f g i j k p q h kk Q hpq hg hp hq hk
    rw [AHeap.set_eq _ hq, AHeap.set_eq _ hp] at hk
    unfold r37j
    repeat' (first | refine S.nilK ?_ | (refine S.op rfl ?_; first | (show ROpS _ _ (.call 30 _) _ _ _; refine callPC0 rfl rfl ct (by repeat' (first | assumption)) (by (repeat' (first | assumption)); first | done | fail) ?_) | refine R.mv rfl ?_) | refine S.seq ?_ | refine S.region ?_ | refine S.condF rfl ?_ | refine RRun.skip ?_)
    exact S.keep [0, 1] rfl hk
theorem ch_where (hT : TOk T) (st : PS) (hi : st.i ≤ T.length) (hd : st.d ≤ 20) : ∃ (f' : AV) (st' : PS), (f'.one) = true ∧ IsE f' ∧ Goes T st st' ∧ ∀ (a b c d e f g i j k : AV), Stg T fin r37w st (chA a b c d e f g i j k) st' (chA a b c d e f' g i j k) := by
  obtain ⟨wh, s1, g1, c1⟩ := where_ex (fin := fin) hT st hi hd [119, 104, 101, 114, 101]
  refine ⟨exs wh, s1, rfl, .of _, g1, ?_⟩
  intro a b c d e f g i j k p q h kk Q hpq hg hp hq hk
  have hqp := Ne.symm hpq
  unfold chA at hq hk
  unfold r37w
  repeat' (first | refine S.nilK ?_ | (refine S.op rfl ?_; first | (show ROpS _ _ (.call 36 _) _ _ _; refine callPC rfl rfl c1 (by repeat' (first | assumption)) (by (repeat' (first | assumption)); first | done | fail) (by repeat' (first | exact rfl)) ?_) | refine R.mv rfl ?_ | refine R.fieldAddr rfl ?_ | refine R.nilCheck rfl ?_) | (refine S.op0 rfl ?_; first | refine S.storeN rfl rfl (by (repeat' (first | assumption | refine AHeap.so ?_ ?_)); first | done | fail) rfl rfl rfl (by rfl) rfl (by repeat' (first | (apply AHeap.upd1; · exact (by first | assumption)) | exact rfl)) ?_) | refine S.region ?_)
  exact S.keep [0, 1] rfl hk
theorem ch_group (hT : TOk T) (st : PS) (hi : st.i ≤ T.length) (hd : st.d ≤ 20) : ∃ (g' : AV) (st' : PS), (g'.one) = true ∧ IsE g' ∧ Goes T st st' ∧ ∀ (a b c d e f i j k : AV), Stg T fin r37g st (chA a b c d e f nilA i j k) st' (chA a b c d e f g' i j k) := by
  rcases take_cases (fin := fin) hT.len st [103, 114, 111, 117, 112] with ⟨e, hlt, ct⟩ | ⟨e, ct⟩
  · clear e
    have c2 := need_spec (T := T) (fin := fin) hT.len [[98, 121]] (by decide) .full st.next
    have g2 := goes_need (fin := fin) (st := st.next) hlt [[98, 121]]
    generalize needP T fin st.next [[98, 121]] = s2 at c2 g2
    have g12 := (Goes.next hlt).trans g2
    obtain ⟨l, s3, g3, c3⟩ := list_ex (fin := fin) hT s2 g2.2.1 (by have := g12.2.2; omega)
    refine ⟨exs l, s3, rfl, .of _, g12.trans g3, ?_⟩
    intro a b c d e f i j k p q h kk Q hpq hg hp hq hk
    have hqp := Ne.symm hpq
    unfold chA at hq hk
    unfold r37g
    repeat' (first | refine S.nilK ?_ | (refine S.op rfl ?_; first | (show ROpS _ _ (.call 30 _) _ _ _; refine callPC rfl rfl ct (by repeat' (first | assumption)) (by (repeat' (first | assumption)); first | done | fail) (by repeat' (first | exact rfl)) ?_) | (show ROpS _ _ (.call 34 _) _ _ _; refine callPCU rfl rfl c2 (by repeat' (first | assumption | refine Glob.setP ?_ (by (repeat' (first | assumption)); first | done | fail))) (by (repeat' (first | exact AHeap.set_same _ _ _)); first | done | fail) (by repeat' (first | exact AHeap.set_set _ _ _ _)) (fun x => ?_)) | (show ROpS _ _ (.call 50 _) _ _ _; refine callPC rfl rfl c3 (by repeat' (first | assumption | refine Glob.setP ?_ (by (repeat' (first | assumption)); first | done | fail))) (by (repeat' (first | exact AHeap.set_same _ _ _)); first | done | fail) (by repeat' (first | exact AHeap.set_set _ _ _ _)) ?_) | refine R.mv rfl ?_ | refine R.fieldAddr rfl ?_ | refine R.nilCheck rfl ?_ | refine R.buildSl rfl rfl rfl (by decide) ?_) | (refine S.op0 rfl ?_; first | refine S.storeN rfl rfl (by (repeat' (first | assumption | refine AHeap.so ?_ ?_)); first | done | fail) rfl rfl rfl (by rfl) rfl (by repeat' (first | (apply AHeap.upd1; · exact (by first | assumption)) | exact rfl)) ?_) | refine S.seq ?_ | refine S.region ?_ | refine S.condT rfl ?_)
    exact S.keep [0, 1] rfl hk
  · clear e
    refine ⟨nilA, st, rfl, .nil, Goes.refl hi, ?_⟩
    intro a b c d e f i j k p q h kk Q hpq hg hp hq hk
    rw [AHeap.set_eq _ hq, AHeap.set_eq _ hp] at hk
    unfold r37g
    repeat' (first | refine S.nilK ?_ | (refine S.op rfl ?_; first | (show ROpS _ _ (.call 30 _) _ _ _; refine callPC0 rfl rfl ct (by repeat' (first | assumption)) (by (repeat' (first | assumption)); first | done | fail) ?_) | refine R.mv rfl ?_) | refine S.seq ?_ | refine S.region ?_ | refine S.condF rfl ?_ | refine RRun.skip ?_)
    exact S.keep [0, 1] rfl hk
theorem ch_order (hT : TOk T) (st : PS) (hi : st.i ≤ T.length) (hd : st.d ≤ 20) : ∃ (i' : AV) (st' : PS), (i'.one) = true ∧ IsO i' ∧ Goes T st st' ∧ ∀ (a b c d e f g j k : AV), Stg T fin r37o st (chA a b c d e f g nilA j k) st' (chA a b c d e f g i' j k) := by
  rcases take_cases (fin := fin) hT.len st [111, 114, 100, 101, 114] with ⟨e, hlt, ct⟩ | ⟨e, ct⟩
  · clear e
    have c2 := need_spec (T := T) (fin := fin) hT.len [[98, 121]] (by decide) .full st.next
    have g2 := goes_need (fin := fin) (st := st.next) hlt [[98, 121]]
    generalize needP T fin st.next [[98, 121]] = s2 at c2 g2
    have g12 := (Goes.next hlt).trans g2
    obtain ⟨l, s3, g3, c3⟩ := order_ex (fin := fin) hT s2 g2.2.1
    refine ⟨bysA l .ro, s3, rfl, ⟨l, .refl _⟩, g12.trans g3, ?_⟩
    intro a b c d e f g j k p q h kk Q hpq hg hp hq hk
    have hqp := Ne.symm hpq
    unfold chA at hq hk
    unfold bysA at c3 hk
    unfold r37o
    repeat' (first | refine S.nilK ?_ | (refine S.op rfl ?_; first | (show ROpS _ _ (.call 30 _) _ _ _; refine callPC rfl rfl ct (by repeat' (first | assumption)) (by (repeat' (first | assumption)); first | done | fail) (by repeat' (first | exact rfl)) ?_) | (show ROpS _ _ (.call 34 _) _ _ _; refine callPCU rfl rfl c2 (by repeat' (first | assumption | refine Glob.setP ?_ (by (repeat' (first | assumption)); first | done | fail))) (by (repeat' (first | exact AHeap.set_same _ _ _)); first | done | fail) (by repeat' (first | exact AHeap.set_set _ _ _ _)) (fun x => ?_)) | (show ROpS _ _ (.call 52 _) _ _ _; refine callPC rfl rfl c3 (by repeat' (first | assumption | refine Glob.setP ?_ (by (repeat' (first | assumption)); first | done | fail))) (by (repeat' (first | exact AHeap.set_same _ _ _)); first | done | fail) (by repeat' (first | exact AHeap.set_set _ _ _ _)) ?_) | refine R.mv rfl ?_ | refine R.fieldAddr rfl ?_ | refine R.nilCheck rfl ?_ | refine R.buildSl rfl rfl rfl (by decide) ?_) | (refine S.op0 rfl ?_; first | refine S.storeN rfl rfl (by (repeat' (first | assumption | refine AHeap.so ?_ ?_)); first | done | fail) rfl rfl rfl (by rfl) rfl (by repeat' (first | (apply AHeap.upd1; · exact (by first | assumption)) | exact rfl)) ?_) | refine S.seq ?_ | refine S.region ?_ | refine S.condT rfl ?_)
    exact S.keep [0, 1] rfl hk
  · clear e
    refine ⟨nilA, st, rfl, .nil, Goes.refl hi, ?_⟩
    intro a b c d e f g j k p q h kk Q hpq hg hp hq hk
    rw [AHeap.set_eq _ hq, AHeap.set_eq _ hp] at hk
    unfold r37o
    repeat' (first | refine S.nilK ?_ | (refine S.op rfl ?_; first | (show ROpS _ _ (.call 30 _) _ _ _; refine callPC0 rfl rfl ct (by repeat' (first | assumption)) (by (repeat' (first | assumption)); first | done | fail) ?_) | refine R.mv rfl ?_) | refine S.seq ?_ | refine S.region ?_ | refine S.condF rfl ?_ | refine RRun.skip ?_)
    exact S.keep [0, 1] rfl hk
theorem ch_limit (hT : TOk T) (st : PS) (hi : st.i ≤ T.length) : ∃ (j' : AV) (st' : PS), (j'.one) = true ∧ IsI j' ∧ Goes T st st' ∧ ∀ (a b c d e f g i k : AV), Stg T fin r37l st (chA a b c d e f g i (i64 (-1)) k) st' (chA a b c d e f g i j' k) := by
  rcases take_cases (fin := fin) hT.len st [108, 105, 109, 105, 116] with ⟨e, hlt, ct⟩ | ⟨e, ct⟩
  · clear e
    have cn := pnumber_spec (fin := fin) hT st.next
    have g1 := goes_num (fin := fin) (st := st.next) hlt
    generalize numP T fin st.next = r at cn g1
    obtain ⟨n, s1⟩ := r
    simp only at cn g1
    refine ⟨i64 n, s1, rfl, .of _, (Goes.next hlt).trans g1, ?_⟩
    intro a b c d e f g i k p q h kk Q hpq hg hp hq hk
    have hqp := Ne.symm hpq
    unfold chA at hq hk
    unfold r37l
    repeat' (first | refine S.nilK ?_ | (refine S.op rfl ?_; first | (show ROpS _ _ (.call 30 _) _ _ _; refine callPC rfl rfl ct (by repeat' (first | assumption)) (by (repeat' (first | assumption)); first | done | fail) (by repeat' (first | exact rfl)) ?_) | (show ROpS _ _ (.call 53 _) _ _ _; refine callPC rfl rfl cn (by repeat' (first | assumption | refine Glob.setP ?_ (by (repeat' (first | assumption)); first | done | fail))) (by (repeat' (first | exact AHeap.set_same _ _ _)); first | done | fail) (by repeat' (first | exact AHeap.set_set _ _ _ _)) ?_) | refine R.mv rfl ?_ | refine R.fieldAddr rfl ?_ | refine R.nilCheck rfl ?_) | (refine S.op0 rfl ?_; first | refine S.storeN rfl rfl (by (repeat' (first | assumption | refine AHeap.so ?_ ?_)); first | done | fail) rfl rfl rfl (by rfl) rfl (by repeat' (first | (apply AHeap.upd1; · exact (by first | assumption)) | exact rfl)) ?_) | refine S.seq ?_ | refine S.region ?_ | refine S.condT rfl ?_)
    exact S.keep [0, 1] rfl hk
  · clear e
    refine ⟨i64 (-1), st, rfl, .of _, Goes.refl hi, ?_⟩
    intro a b c d e f g i k p q h kk Q hpq hg hp hq hk
    rw [AHeap.set_eq _ hq, AHeap.set_eq _ hp] at hk
    unfold r37l
    repeat' (first | refine S.nilK ?_ | (refine S.op rfl ?_; first | (show ROpS _ _ (.call 30 _) _ _ _; refine callPC0 rfl rfl ct (by repeat' (first | assumption)) (by (repeat' (first | assumption)); first | done | fail) ?_) | refine R.mv rfl ?_) | refine S.seq ?_ | refine S.region ?_ | refine S.condF rfl ?_ | refine RRun.skip ?_)
    exact S.keep [0, 1] rfl hk
theorem ch_for (hT : TOk T) (st : PS) (hi : st.i ≤ T.length) : ∃ (k' : AV) (st' : PS), (k'.one) = true ∧ IsB k' ∧ Goes T st st' ∧ ∀ (a b c d e f g i j : AV), Stg T fin r37f st (chA a b c d e f g i j (bl false)) st' (chA a b c d e f g i j k') := by
  rcases take_cases (fin := fin) hT.len st [102, 111, 114] with ⟨e, hlt, ct⟩ | ⟨e, ct⟩
  · clear e
    have c2 := need_spec (T := T) (fin := fin) hT.len [[117, 112, 100, 97, 116, 101]] (by decide) .full st.next
    have g2 := goes_need (fin := fin) (st := st.next) hlt [[117, 112, 100, 97, 116, 101]]
    generalize needP T fin st.next [[117, 112, 100, 97, 116, 101]] = s2 at c2 g2
    refine ⟨bl true, s2, rfl, .of _, (Goes.next hlt).trans g2, ?_⟩
    intro a b c d e f g i j p q h kk Q hpq hg hp hq hk
    have hqp := Ne.symm hpq
    unfold chA at hq hk
    unfold r37f
    repeat' (first | refine S.nilK ?_ | (refine S.op rfl ?_; first | (show ROpS _ _ (.call 30 _) _ _ _; refine callPC rfl rfl ct (by repeat' (first | assumption)) (by (repeat' (first | assumption)); first | done | fail) (by repeat' (first | exact rfl)) ?_) | (show ROpS _ _ (.call 34 _) _ _ _; refine callPCU rfl rfl c2 (by repeat' (first | assumption | refine Glob.setP ?_ (by (repeat' (first | assumption)); first | done | fail))) (by (repeat' (first | exact AHeap.set_same _ _ _)); first | done | fail) (by repeat' (first | exact AHeap.set_set _ _ _ _)) (fun x => ?_)) | refine R.mv rfl ?_ | refine R.fieldAddr rfl ?_ | refine R.nilCheck rfl ?_ | refine R.buildSl rfl rfl rfl (by decide) ?_) | (refine S.op0 rfl ?_; first | refine S.storeN rfl rfl (by (repeat' (first | assumption | refine AHeap.so ?_ ?_)); first | done | fail) rfl rfl rfl (by rfl) rfl (by repeat' (first | (apply AHeap.upd1; · exact (by first | assumption)) | exact rfl)) ?_) | refine S.seq ?_ | refine S.region ?_ | refine S.condT rfl ?_)
    exact S.keep [0, 1] rfl hk
  · clear e
    refine ⟨bl false, st, rfl, .of _, Goes.refl hi, ?_⟩
    intro a b c d e f g i j p q h kk Q hpq hg hp hq hk
    rw [AHeap.set_eq _ hq, AHeap.set_eq _ hp] at hk
    unfold r37f
    repeat' (first | refine S.nilK ?_ | (refine S.op rfl ?_; first | (show ROpS _ _ (.call 30 _) _ _ _; refine callPC0 rfl rfl ct (by repeat' (first | assumption)) (by (repeat' (first | assumption)); first | done | fail) ?_) | refine R.mv rfl ?_) | refine S.seq ?_ | refine S.region ?_ | refine S.condF rfl ?_ | refine RRun.skip ?_)
    exact S.keep [0, 1] rfl hk
theorem choose_ex (hT : TOk T) (st : PS) (hi : st.i ≤ T.length) (hd : st.d ≤ 20) : ∃ (S' : List AV) (st' : PS), S'.length = 20 ∧ S'.all AV.one = true ∧ IsSt S' ∧ Goes T st st' ∧ SP T fin 37 zeroS st S' st' := by
  obtain ⟨a, b, s1, o1, y1, g1, H1⟩ := ch_star (fin := fin) hT st hi hd
  obtain ⟨s2, g2, H2⟩ := ch_from (fin := fin) hT s1 g1.2.1
  obtain ⟨c, s3, o3, y3, g3, H3⟩ := ch_name (fin := fin) hT s2 g2.2.1
  have h3 := g1.trans (g2.trans g3)
  obtain ⟨d, e, s4, o4, y4, g4, H4⟩ := ch_join (fin := fin) hT s3 g3.2.1 (by have := h3.2.2; omega)
  have h4 := h3.trans g4
  obtain ⟨f, s5, o5, y5, g5, H5⟩ := ch_where (fin := fin) hT s4 g4.2.1 (by have := h4.2.2; omega)
  have h5 := h4.trans g5
  obtain ⟨g, s6, o6, y6, g6, H6⟩ := ch_group (fin := fin) hT s5 g5.2.1 (by have := h5.2.2; omega)
  have h6 := h5.trans g6
  obtain ⟨i, s7, o7, y7, g7, H7⟩ := ch_order (fin := fin) hT s6 g6.2.1 (by have := h6.2.2; omega)
  obtain ⟨j, s8, o8, y8, g8, H8⟩ := ch_limit (fin := fin) hT s7 g7.2.1
  obtain ⟨k, s9, o9, y9, g9, H9⟩ := ch_for (fin := fin) hT s8 g8.2.1
  have hall : (chA a b c d e f g i j k).all AV.one = (a.one && (b.one && (c.one && (d.one && (e.one && (f.one && (g.one && (i.one && (j.one && (k.one && true)))))))))) := rfl
  rw [Bool.and_eq_true] at o1 o4
  rw [o1.1, o1.2, o3, o4.1, o4.2, o5, o6, o7, o8, o9] at hall
  refine ⟨chA a b c d e f g i j k, s9, rfl, hall, isSt_of nil_cols nil_ints nil_rows nil_sets y1.1 y1.2 y3 y4.1 y4.2 y5 y6 y7 y8 y9, h6.trans (g7.trans (g8.trans g9)), ?_⟩
  intro p q h hpq hg hp hq
  obtain ⟨c', hc1, hc2⟩ := res37
  refine ACalls.enter Try.func37 hc1 Try.ntmps37 hc2 (Nat.le_of_ble_eq_true rfl) rfl ?_
  have hqp := Ne.symm hpq
  have hend : RRun Try.prog Try.f37 86 [] (Env.get [(0, ptr p), (1, ptr q)]) ((h.set q (.box (chA a b c d e f g i j k))).set p (.box (pst T fin s9))) (fun _ h' => h' = (h.set p (.box (pst T fin s9))).set q (.box (chA a b c d e f g i j k))) := by
    apply S.done rr37
    case hx => repeat (first | exact ResAt.nil)
    exact AHeap.set_comm _ _ _ hqp
  have hz : RRun Try.prog Try.f37 86 [.code (.seq r37b (.seq r37c (.seq r37d (.seq r37j (.seq r37w (.seq r37g (.seq r37o (.seq r37l r37f))))))))] (Env.get [(0, ptr p), (1, ptr q)]) ((h.set q (.box (chA (bl false) nilA (str []) (str []) nilA nilA nilA nilA (i64 (-1)) (bl false)))).set p (.box (pst T fin st))) (fun _ h' => h' = (h.set p (.box (pst T fin s9))).set q (.box (chA a b c d e f g i j k))) :=
    RRun.seq (Stg.at (H1 _ _ _ _ _ _ _ _) hpq hg hp hq (RRun.seq (Stg.at (H2 _ _ _ _ _ _ _ _ _ _) hpq hg hp hq (RRun.seq (Stg.at (H3 _ _ _ _ _ _ _ _ _ _) hpq hg hp hq (RRun.seq (Stg.at (H4 _ _ _ _ _ _ _ _) hpq hg hp hq (RRun.seq (Stg.at (H5 _ _ _ _ _ _ _ _ _ _) hpq hg hp hq (RRun.seq (Stg.at (H6 _ _ _ _ _ _ _ _ _) hpq hg hp hq (RRun.seq (Stg.at (H7 _ _ _ _ _ _ _ _ _) hpq hg hp hq (RRun.seq (Stg.at (H8 _ _ _ _ _ _ _ _ _) hpq hg hp hq (Stg.at (H9 _ _ _ _ _ _ _ _ _) hpq hg hp hq hend))))))))))))))))
  have ep : (h.set q (.box (chA (bl false) nilA (str []) (str []) nilA nilA nilA nilA (i64 (-1)) (bl false)))).set p (.box (pst T fin st)) = h.set q (.box (chA (bl false) nilA (str []) (str []) nilA nilA nilA nilA (i64 (-1)) (bl false))) := AHeap.set_eq _ ((AHeap.set_other _ _ hpq).trans hp)
  rw [ep] at hz
  unfold zeroS nilA at hq
  show RRun _ _ _ [.code (.seq r37a (.seq r37b (.seq r37c (.seq r37d (.seq r37j (.seq r37w (.seq r37g (.seq r37o (.seq r37l r37f)))))))))] _ _ _
  refine RRun.seq ?_
  unfold r37a
  repeat' (first | ((show RRun _ _ _ [.code (.seq r37b (.seq r37c _))] _ _ _; exact S.keep [0, 1] rfl hz)) | (refine S.op rfl ?_; first | refine R.mv rfl ?_ | refine R.fieldAddr rfl ?_ | refine R.nilCheck rfl ?_) | (refine S.op0 rfl ?_; first | refine S.storeN rfl rfl (by (repeat' (first | assumption)); first | done | fail) rfl rfl rfl (by rfl) rfl (by repeat' (first | exact rfl)) ?_) | refine S.region ?_)
end
end Go.Proofs.Ytdinnoejipmiiaa
