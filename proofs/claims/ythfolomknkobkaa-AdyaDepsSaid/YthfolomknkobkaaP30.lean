/-
  AdyaDeps answers true for every history
-/
import Derived.Test.YthfolomknkobkaaP1
set_option linter.unusedVariables false
namespace Go.Av.St
variable {α : Type} [Inhabited α]
def gd (d : List α) (k : Nat) : α := (d[k]?).getD default
theorem gd_some {d : List α} {k : Nat} (hk : k < d.length) : d[k]? = some (gd d k) := by
  rw [gd, List.getElem?_eq_getElem hk]; rfl
theorem gd_seg (L A Z : List α) {k : Nat} (h1 : L.length ≤ k) (h2 : k < L.length + A.length) : A[k - L.length]? = some (gd (L ++ A ++ Z) k) := by
  rw [gd, List.append_assoc, List.getElem?_append_right h1, List.getElem?_append_left (by omega), List.getElem?_eq_getElem (by omega)]; rfl
theorem gd_sorted {lt : α → α → Bool} {L A Z : List α} (hA : Sorted lt A) {k k' : Nat} (h1 : L.length ≤ k) (h2 : k < k') (h3 : k' < L.length + A.length) : lt (gd (L ++ A ++ Z) k') (gd (L ++ A ++ Z) k) = false :=
  hA.le (i := k - L.length) (j := k' - L.length) (by omega) (gd_seg L A Z h1 (by omega)) (gd_seg L A Z (by omega) h3)
theorem gd_sorted' {lt : α → α → Bool} (w : SW lt) {L A Z : List α} (hA : Sorted lt A) {k k' : Nat} (h1 : L.length ≤ k) (h2 : k ≤ k') (h3 : k' < L.length + A.length) : lt (gd (L ++ A ++ Z) k') (gd (L ++ A ++ Z) k) = false := by
  rcases Nat.lt_or_eq_of_le h2 with h | rfl
  · exact gd_sorted hA h1 h h3
  · exact w.irr _
theorem gd_mem {L A Z : List α} {x : α} (hx : x ∈ A) : ∃ k, L.length ≤ k ∧ k < L.length + A.length ∧ gd (L ++ A ++ Z) k = x := by
  obtain ⟨i, hi, rfl⟩ := List.mem_iff_getElem.1 hx
  refine ⟨L.length + i, by omega, by omega, ?_⟩
  have := gd_seg L A Z (k := L.length + i) (by omega) (by omega)
  rw [show L.length + i - L.length = i by omega, List.getElem?_eq_getElem hi] at this
  exact (Option.some.inj this).symm
theorem gd_mid (L Z : List α) (x : α) : gd (L ++ x :: Z) L.length = x := by
  rw [gd, List.getElem?_append_right (Nat.le_refl _), Nat.sub_self]; rfl

omit [Inhabited α] in
theorem merge_one {lt : α → α → Bool} {x : α} {B1 B2 : List α} (h1 : ∀ b ∈ B1, lt b x = true) (h2 : ∀ b ∈ B2, lt b x = false) : merge lt [x] (B1 ++ B2) = B1 ++ x :: B2 := by
  have e1 := merge_split (lt := lt) _ [] [x] B1 B2 (Nat.le_refl _) (fun b hb a ha => by rw [List.mem_singleton.1 ha]; exact h1 b hb) (fun a ha => by cases ha)
  have e2 := merge_split (lt := lt) _ [x] [] [] B2 (Nat.le_refl _) (fun b hb => by cases hb) (fun a ha b hb => by rw [List.mem_singleton.1 ha]; exact h2 b hb)
  rw [merge_nil, List.nil_append] at e1
  rw [merge_nil', merge_nil, List.append_nil, List.nil_append] at e2
  rw [e1, e2]; rfl
omit [Inhabited α] in
theorem merge_more {lt : α → α → Bool} {y : α} {A1 A2 : List α} (h1 : ∀ a ∈ A1, lt y a = false) (h2 : ∀ a ∈ A2, lt y a = true) : merge lt (A1 ++ A2) [y] = A1 ++ y :: A2 := by
  have e1 := merge_split (lt := lt) _ A1 A2 [] [y] (Nat.le_refl _) (fun b hb => by cases hb) (fun a ha b hb => by rw [List.mem_singleton.1 hb]; exact h1 a ha)
  have e2 := merge_split (lt := lt) _ [] A2 [y] [] (Nat.le_refl _) (fun b hb a ha => by rw [List.mem_singleton.1 hb]; exact h2 a ha) (fun a ha => by cases ha)
  rw [merge_nil', List.nil_append] at e1
  rw [merge_nil, merge_nil', List.append_nil, List.nil_append] at e2
  rw [e1, e2]; rfl
def Falls (p : Nat → Bool) (lo hi : Nat) : Prop := ∀ k k', lo ≤ k → k ≤ k' → k' < hi → p k' = true → p k = true
structure Found (p : Nat → Bool) (lo hi r : Nat) : Prop where
  ge : lo ≤ r
  le : r ≤ hi
  yes : ∀ k, lo ≤ k → k < r → p k = true
  no : ∀ k, r ≤ k → k < hi → p k = false
theorem sym_parts {lt : α → α → Bool} (w : SW lt) {P A B Z : List α} (hA : Sorted lt A) (hB : Sorted lt B) {a m b mid lo hi s : Nat} (ha : a = P.length) (hm : m = a + A.length) (hb : b = m + B.length) (hmid : mid = (a + b) / 2)
    (hlo : (m > mid ∧ lo = mid + m - b ∧ hi = mid) ∨ (m ≤ mid ∧ lo = a ∧ hi = m))
    (hs : Found (fun k => !lt (gd (P ++ A ++ B ++ Z) (mid + m - 1 - k)) (gd (P ++ A ++ B ++ Z) k)) lo hi s) :
    ∃ A1 A2 B1 B2, A = A1 ++ A2 ∧ B = B1 ++ B2 ∧ A1.length = s - a ∧ A2.length = m - s ∧ B1.length = mid - s ∧ B2.length = b + s - (mid + m) ∧ a ≤ s ∧ s ≤ m ∧ s ≤ mid ∧ mid + m ≤ b + s ∧ (∀ y ∈ B1, ∀ x ∈ A2, lt y x = true) ∧ (∀ x ∈ A1, ∀ y ∈ B2, lt y x = false) := by
  obtain ⟨hs1, hs2, hyes, hno⟩ := hs
  have hA' : A.take (s - a) ++ A.drop (s - a) = A := List.take_append_drop _ _
  have hB' : B.take (mid - s) ++ B.drop (mid - s) = B := List.take_append_drop _ _
  have l1 : (A.take (s - a)).length = s - a := by simp; omega
  have l2 : (A.drop (s - a)).length = m - s := by simp; omega
  have l3 : (B.take (mid - s)).length = mid - s := by simp; omega
  have l4 : (B.drop (mid - s)).length = b + s - (mid + m) := by simp; omega
  generalize A.take (s - a) = A1 at *
  generalize A.drop (s - a) = A2 at *
  generalize B.take (mid - s) = B1 at *
  generalize B.drop (mid - s) = B2 at *
  refine ⟨A1, A2, B1, B2, hA'.symm, hB'.symm, l1, l2, l3, l4, by omega, by omega, by omega, by omega, ?_, ?_⟩
  · intro y hy x hx
    obtain ⟨i, hi1, hi2, rfl⟩ := gd_mem (L := P ++ A1) (Z := B ++ Z) hx
    obtain ⟨j, hj1, hj2, rfl⟩ := gd_mem (L := P ++ A) (Z := B2 ++ Z) hy
    have e1 : P ++ A1 ++ A2 ++ (B ++ Z) = P ++ A ++ B ++ Z := by rw [← hA']; simp
    have e2 : P ++ A ++ B1 ++ (B2 ++ Z) = P ++ A ++ B ++ Z := by rw [← hB']; simp
    rw [e1, e2]
    simp only [List.length_append] at hi1 hi2 hj1 hj2
    have hn := hno s (Nat.le_refl _) (by omega)
    simp only [Bool.not_eq_false'] at hn
    have h1 : lt (gd (P ++ A ++ B ++ Z) (mid + m - 1 - s)) (gd (P ++ A ++ B ++ Z) j) = false := gd_sorted' w hB (L := P ++ A) (by simp; omega) (by omega) (by simp; omega)
    have h2 : lt (gd (P ++ A ++ B ++ Z) i) (gd (P ++ A ++ B ++ Z) s) = false := by
      rw [List.append_assoc (P ++ A)]
      exact gd_sorted' w hA (L := P) (by omega) (by omega) (by omega)
    exact w.le_lt h1 (w.lt_le hn h2)
  · intro x hx y hy
    obtain ⟨i, hi1, hi2, rfl⟩ := gd_mem (L := P) (Z := A2 ++ B ++ Z) hx
    obtain ⟨j, hj1, hj2, rfl⟩ := gd_mem (L := P ++ A ++ B1) (Z := Z) hy
    have e1 : P ++ A1 ++ (A2 ++ B ++ Z) = P ++ A ++ B ++ Z := by rw [← hA']; simp
    have e2 : P ++ A ++ B1 ++ B2 ++ Z = P ++ A ++ B ++ Z := by rw [← hB']; simp
    rw [e1, e2]
    simp only [List.length_append] at hi1 hi2 hj1 hj2
    have hn := hyes (s - 1) (by omega) (by omega)
    simp only [Bool.not_eq_true'] at hn
    have h1 : lt (gd (P ++ A ++ B ++ Z) j) (gd (P ++ A ++ B ++ Z) (mid + m - 1 - (s - 1))) = false := gd_sorted' w hB (L := P ++ A) (by simp; omega) (by omega) (by simp; omega)
    have h2 : lt (gd (P ++ A ++ B ++ Z) (s - 1)) (gd (P ++ A ++ B ++ Z) i) = false := by
      rw [List.append_assoc (P ++ A)]
      exact gd_sorted' w hA (L := P) (by omega) (by omega) (by omega)
    exact w.neg _ _ _ h1 (w.neg _ _ _ hn h2)
theorem sym_falls {lt : α → α → Bool} (w : SW lt) {P A B Z : List α} (hA : Sorted lt A) (hB : Sorted lt B) {a m b mid lo hi : Nat} (ha : a = P.length) (hm : m = a + A.length) (hb : b = m + B.length) (hmid : mid = (a + b) / 2)
    (hlo : (m > mid ∧ lo = mid + m - b ∧ hi = mid) ∨ (m ≤ mid ∧ lo = a ∧ hi = m)) :
    Falls (fun k => !lt (gd (P ++ A ++ B ++ Z) (mid + m - 1 - k)) (gd (P ++ A ++ B ++ Z) k)) lo hi := by
  intro k k' h1 h2 h3 hp
  simp only [Bool.not_eq_true'] at hp ⊢
  have g1 : lt (gd (P ++ A ++ B ++ Z) (mid + m - 1 - k)) (gd (P ++ A ++ B ++ Z) (mid + m - 1 - k')) = false := gd_sorted' w hB (L := P ++ A) (by simp; omega) (by omega) (by simp; omega)
  have g2 : lt (gd (P ++ A ++ B ++ Z) k') (gd (P ++ A ++ B ++ Z) k) = false := by
    rw [List.append_assoc (P ++ A)]
    exact gd_sorted' w hA (L := P) (by omega) (by omega) (by omega)
  exact w.neg _ _ _ g1 (w.neg _ _ _ hp g2)
theorem one_falls {lt : α → α → Bool} (w : SW lt) {L B Z : List α} (hB : Sorted lt B) (x : α) : Falls (fun k => lt (gd (L ++ B ++ Z) k) x) L.length (L.length + B.length) :=
  fun k k' h1 h2 h3 hp => w.le_lt (gd_sorted' w hB h1 h2 h3) hp
theorem more_falls {lt : α → α → Bool} (w : SW lt) {L A Z : List α} (hA : Sorted lt A) (y : α) : Falls (fun k => !lt y (gd (L ++ A ++ Z) k)) L.length (L.length + A.length) := fun k k' h1 h2 h3 hp => by
  simp only [Bool.not_eq_true'] at hp ⊢
  exact w.neg _ _ _ hp (gd_sorted' w hA h1 h2 h3)
theorem Found.parts {p : α → Bool} {L A Z : List α} {r : Nat} (h : Found (fun k => p (gd (L ++ A ++ Z) k)) L.length (L.length + A.length) r) : ∃ A1 A2, A = A1 ++ A2 ∧ A1.length = r - L.length ∧ A2.length = L.length + A.length - r ∧ (∀ x ∈ A1, p x = true) ∧ (∀ x ∈ A2, p x = false) := by
  obtain ⟨h1, h2, hyes, hno⟩ := h
  have hA' : A.take (r - L.length) ++ A.drop (r - L.length) = A := List.take_append_drop _ _
  have l1 : (A.take (r - L.length)).length = r - L.length := by simp; omega
  have l2 : (A.drop (r - L.length)).length = L.length + A.length - r := by simp; omega
  generalize A.take (r - L.length) = A1 at *
  generalize A.drop (r - L.length) = A2 at *
  refine ⟨A1, A2, hA'.symm, l1, l2, fun x hx => ?_, fun x hx => ?_⟩
  · obtain ⟨k, g1, g2, rfl⟩ := gd_mem (L := L) (Z := A2 ++ Z) hx
    have e : L ++ A1 ++ (A2 ++ Z) = L ++ A ++ Z := by rw [← hA']; simp
    rw [e]
    exact hyes k g1 (by omega)
  · obtain ⟨k, g1, g2, rfl⟩ := gd_mem (L := L ++ A1) (Z := Z) hx
    have e : L ++ A1 ++ A2 ++ Z = L ++ A ++ Z := by rw [← hA']; simp
    rw [e]
    simp only [List.length_append] at g1 g2
    exact hno k (by omega) (by omega)
end Go.Av.St
