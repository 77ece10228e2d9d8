/-
  AdyaDeps answers true for every history
-/
import Derived.WalkKit
set_option linter.unusedVariables false
namespace Go.Av.St
variable {α : Type}
structure SW (lt : α → α → Bool) : Prop where
  irr : ∀ a, lt a a = false
  tr : ∀ a b c, lt a b = true → lt b c = true → lt a c = true
  neg : ∀ a b c, lt a b = false → lt b c = false → lt a c = false
theorem SW.asym {lt : α → α → Bool} (h : SW lt) {a b : α} (hab : lt a b = true) : lt b a = false := by
  cases hb : lt b a with
  | false => rfl
  | true => have := h.tr a b a hab hb; rw [h.irr] at this; cases this
theorem SW.lt_le {lt : α → α → Bool} (h : SW lt) {a b c : α} (hab : lt a b = true) (hcb : lt c b = false) : lt a c = true := by
  cases hc : lt a c with
  | true => rfl
  | false => have := h.neg a c b hc hcb; rw [hab] at this; cases this
theorem SW.le_lt {lt : α → α → Bool} (h : SW lt) {a b c : α} (hba : lt b a = false) (hbc : lt b c = true) : lt a c = true := by
  cases hc : lt a c with
  | true => rfl
  | false => have := h.neg b a c hba hc; rw [hbc] at this; cases this
def Sorted (lt : α → α → Bool) (l : List α) : Prop := l.Pairwise fun a b => lt b a = false
def ins (lt : α → α → Bool) (x : α) : List α → List α
  | [] => [x]
  | y :: l => if lt x y then x :: y :: l else y :: ins lt x l
def isort (lt : α → α → Bool) (l : List α) : List α := l.foldl (fun acc x => ins lt x acc) []
def merge (lt : α → α → Bool) : List α → List α → List α
  | [], T => T
  | s :: S, [] => s :: S
  | s :: S, t :: T => if lt t s then t :: merge lt (s :: S) T else s :: merge lt S (t :: T)
termination_by S T => S.length + T.length
theorem merge_nil (lt : α → α → Bool) (T : List α) : merge lt [] T = T := by rw [merge]
theorem merge_nil' (lt : α → α → Bool) (S : List α) : merge lt S [] = S := by cases S <;> rw [merge]
theorem merge_ins {lt : α → α → Bool} (h : SW lt) (x : α) : ∀ (n : Nat) (S T : List α), S.length + T.length ≤ n → merge lt S (ins lt x T) = ins lt x (merge lt S T) := by
  intro n
  induction n with
  | zero =>
    intro S T hn
    have hS : S = [] := List.eq_nil_of_length_eq_zero (by omega)
    have hT : T = [] := List.eq_nil_of_length_eq_zero (by omega)
    subst hS; subst hT
    rw [merge_nil, merge_nil]
  | succ n ih =>
    intro S T hn
    match S, T with
    | [], T => rw [merge_nil, merge_nil]
    | s :: S, [] =>
      rw [merge_nil']
      show merge lt (s :: S) [x] = ins lt x (s :: S)
      rw [merge, ins]
      split
      · rw [merge_nil']
      · have := ih S [] (by simp at hn ⊢; omega)
        rw [merge_nil'] at this
        rw [← this]; rfl
    | s :: S, t :: T =>
      simp only [List.length_cons] at hn
      have e : merge lt (s :: S) (t :: T) = if lt t s then t :: merge lt (s :: S) T else s :: merge lt S (t :: T) := by rw [merge]
      rw [e]
      cases hts : lt t s with
      | true =>
        simp only [if_true]
        cases hxt : lt x t with
        | true =>
          have hxs := h.tr x t s hxt hts
          rw [ins, hxt, ins, hxt]
          simp only [if_true]
          rw [merge, hxs]
          simp only [if_true]
          rw [e, hts]
          simp
        | false =>
          rw [ins, hxt, ins, hxt]
          simp only [Bool.false_eq_true, if_false]
          rw [merge, hts]
          simp only [if_true]
          rw [ih (s :: S) T (by simp only [List.length_cons]; omega)]
      | false =>
        simp only [Bool.false_eq_true, if_false]
        cases hxt : lt x t with
        | true =>
          cases hxs : lt x s with
          | true =>
            rw [ins, hxt, ins, hxs]
            simp only [if_true]
            rw [merge, hxs]
            simp only [if_true]
            rw [e, hts]
            simp
          | false =>
            have e2 : ins lt x (t :: T) = x :: t :: T := by rw [ins, hxt]; simp
            rw [e2, ins, hxs]
            simp only [Bool.false_eq_true, if_false]
            rw [merge, hxs]
            simp only [Bool.false_eq_true, if_false]
            rw [← e2, ih S (t :: T) (by simp only [List.length_cons]; omega)]
        | false =>
          have hxs : lt x s = false := h.neg x t s hxt hts
          have e2 : ins lt x (t :: T) = t :: ins lt x T := by rw [ins, hxt]; simp
          rw [e2, ins, hxs]
          simp only [Bool.false_eq_true, if_false]
          rw [merge, hts]
          simp only [Bool.false_eq_true, if_false]
          rw [← e2, ih S (t :: T) (by simp only [List.length_cons]; omega)]
theorem isort_snoc (lt : α → α → Bool) (l : List α) (x : α) : isort lt (l ++ [x]) = ins lt x (isort lt l) := by simp [isort]
theorem isort_nil (lt : α → α → Bool) : isort lt ([] : List α) = [] := rfl
theorem foldl_merge {lt : α → α → Bool} (h : SW lt) (S : List α) : ∀ (B T : List α), B.foldl (fun acc x => ins lt x acc) (merge lt S T) = merge lt S (B.foldl (fun acc x => ins lt x acc) T)
  | [], T => rfl
  | x :: B, T => by
    rw [List.foldl_cons, List.foldl_cons, ← merge_ins h x _ S T (Nat.le_refl _), foldl_merge h S B]
theorem isort_append {lt : α → α → Bool} (h : SW lt) (A B : List α) : isort lt (A ++ B) = merge lt (isort lt A) (isort lt B) := by
  have := foldl_merge h (isort lt A) B []
  rw [merge_nil'] at this
  unfold isort at this ⊢
  rw [List.foldl_append]
  exact this
theorem ins_mem {lt : α → α → Bool} {x : α} : ∀ {l : List α} {y : α}, y ∈ ins lt x l → y = x ∨ y ∈ l
  | [], y, h => by rw [ins, List.mem_singleton] at h; exact .inl h
  | z :: l, y, h => by
    rw [ins] at h
    split at h
    · exact List.mem_cons.1 h
    · rcases List.mem_cons.1 h with rfl | h
      · exact .inr (List.mem_cons_self ..)
      · exact (ins_mem h).imp id (List.mem_cons_of_mem _)
theorem ins_sorted {lt : α → α → Bool} (h : SW lt) {x : α} : ∀ {l : List α}, Sorted lt l → Sorted lt (ins lt x l)
  | [], _ => by simp [ins, Sorted]
  | y :: l, hl => by
    have hl' := List.pairwise_cons.1 hl
    rw [ins]
    cases hxy : lt x y with
    | true =>
      simp only [if_true]
      refine List.pairwise_cons.2 ⟨fun z hz => ?_, hl⟩
      rcases List.mem_cons.1 hz with rfl | hz
      · exact h.asym hxy
      · exact h.neg z y x (hl'.1 z hz) (h.asym hxy)
    | false =>
      simp only [Bool.false_eq_true, if_false]
      refine List.pairwise_cons.2 ⟨fun z hz => ?_, ins_sorted h hl'.2⟩
      rcases ins_mem hz with rfl | hz
      · exact hxy
      · exact hl'.1 z hz
theorem ins_perm {lt : α → α → Bool} {x : α} : ∀ {l : List α}, (ins lt x l).Perm (x :: l)
  | [] => .refl _
  | y :: l => by
    rw [ins]
    split
    · exact .refl _
    · exact ((ins_perm (l := l)).cons y).trans (.swap x y l)
theorem foldl_sorted {lt : α → α → Bool} (h : SW lt) : ∀ (B T : List α), Sorted lt T → Sorted lt (B.foldl (fun acc x => ins lt x acc) T)
  | [], T, hT => hT
  | x :: B, T, hT => foldl_sorted h B _ (ins_sorted h hT)
theorem isort_sorted {lt : α → α → Bool} (h : SW lt) (l : List α) : Sorted lt (isort lt l) := foldl_sorted h l [] .nil
theorem foldl_perm {lt : α → α → Bool} : ∀ (B T : List α), (B.foldl (fun acc x => ins lt x acc) T).Perm (T ++ B)
  | [], T => by simp
  | x :: B, T => by
    rw [List.foldl_cons]
    refine (foldl_perm B _).trans ?_
    have := (ins_perm (lt := lt) (x := x) (l := T)).append_right B
    exact this.trans (by simpa using (List.perm_middle (a := x) (l₁ := T) (l₂ := B)).symm)
theorem isort_perm (lt : α → α → Bool) (l : List α) : (isort lt l).Perm l := by
  have := foldl_perm (lt := lt) l []
  rw [List.nil_append] at this
  exact this
theorem isort_length (lt : α → α → Bool) (l : List α) : (isort lt l).length = l.length := (isort_perm lt l).length_eq
theorem ins_at {lt : α → α → Bool} {x : α} : ∀ {L1 L2 : List α}, (∀ y ∈ L1, lt x y = false) → (∀ y, L2.head? = some y → lt x y = true) → ins lt x (L1 ++ L2) = L1 ++ x :: L2
  | [], [], _, _ => rfl
  | [], y :: L2, _, h2 => by rw [List.nil_append, ins, h2 y rfl]; simp
  | z :: L1, L2, h1, h2 => by
    rw [List.cons_append, ins, h1 z (List.mem_cons_self ..)]
    simp only [Bool.false_eq_true, if_false]
    rw [ins_at (fun y hy => h1 y (List.mem_cons_of_mem _ hy)) h2]
    rfl
theorem merge_split {lt : α → α → Bool} : ∀ (n : Nat) (A1 A2 B1 B2 : List α), A1.length + B1.length ≤ n → (∀ b ∈ B1, ∀ a ∈ A2, lt b a = true) → (∀ a ∈ A1, ∀ b ∈ B2, lt b a = false) → merge lt (A1 ++ A2) (B1 ++ B2) = merge lt A1 B1 ++ merge lt A2 B2 := by
  intro n
  induction n with
  | zero =>
    intro A1 A2 B1 B2 hn _ _
    have h1 : A1 = [] := List.eq_nil_of_length_eq_zero (by omega)
    have h2 : B1 = [] := List.eq_nil_of_length_eq_zero (by omega)
    subst h1; subst h2
    rw [merge_nil]; rfl
  | succ n ih =>
    intro A1 A2 B1 B2 hn hb ha
    match A1, B1 with
    | [], [] => rw [merge_nil]; rfl
    | [], b :: B1 =>
      rw [merge_nil]
      match A2 with
      | [] => simp [merge_nil]
      | a :: A2 =>
        have e := ih [] (a :: A2) B1 B2 (by simp at hn ⊢; omega) (fun x hx => hb x (List.mem_cons_of_mem _ hx)) (fun x hx => by cases hx)
        rw [merge_nil] at e
        show merge lt (a :: A2) (b :: (B1 ++ B2)) = _
        rw [merge, hb b (List.mem_cons_self ..) a (List.mem_cons_self ..)]
        simp only [if_true]
        rw [show a :: A2 = [] ++ a :: A2 from rfl, e]
        rfl
    | a :: A1, [] =>
      rw [merge_nil']
      match B2 with
      | [] => simp [merge_nil']
      | b :: B2 =>
        have e := ih A1 A2 [] (b :: B2) (by simp at hn ⊢; omega) (fun x hx => by cases hx) (fun x hx => ha x (List.mem_cons_of_mem _ hx))
        rw [merge_nil'] at e
        show merge lt (a :: (A1 ++ A2)) (b :: B2) = _
        rw [merge, ha a (List.mem_cons_self ..) b (List.mem_cons_self ..)]
        simp only [Bool.false_eq_true, if_false]
        rw [show b :: B2 = [] ++ b :: B2 from rfl, e]
        rfl
    | a :: A1, b :: B1 =>
      show merge lt (a :: (A1 ++ A2)) (b :: (B1 ++ B2)) = _
      rw [merge, merge]
      simp only [List.length_cons] at hn
      cases hba : lt b a with
      | true =>
        simp only [if_true]
        have e := ih (a :: A1) A2 B1 B2 (by simp only [List.length_cons]; omega) (fun x hx => hb x (List.mem_cons_of_mem _ hx)) ha
        rw [show a :: (A1 ++ A2) = a :: A1 ++ A2 from rfl, e]
        rfl
      | false =>
        simp only [Bool.false_eq_true, if_false]
        have e := ih A1 A2 (b :: B1) B2 (by simp only [List.length_cons]; omega) hb (fun x hx => ha x (List.mem_cons_of_mem _ hx))
        rw [show b :: (B1 ++ B2) = b :: B1 ++ B2 from rfl, e]
        rfl
theorem merge_length {lt : α → α → Bool} : ∀ (n : Nat) (A B : List α), A.length + B.length ≤ n → (merge lt A B).length = A.length + B.length := by
  intro n
  induction n with
  | zero =>
    intro A B hn
    have h1 : A = [] := List.eq_nil_of_length_eq_zero (by omega)
    subst h1
    rw [merge_nil]; simp
  | succ n ih =>
    intro A B hn
    match A, B with
    | [], B => rw [merge_nil]; simp
    | a :: A, [] => rw [merge_nil']; simp
    | a :: A, b :: B =>
      simp only [List.length_cons] at hn
      rw [merge]
      split
      · rw [List.length_cons, ih (a :: A) B (by simp only [List.length_cons]; omega)]; simp; omega
      · rw [List.length_cons, ih A (b :: B) (by simp only [List.length_cons]; omega)]; simp; omega
theorem Sorted.le {lt : α → α → Bool} {l : List α} (hl : Sorted lt l) {i j : Nat} {a b : α} (hij : i < j) (ha : l[i]? = some a) (hb : l[j]? = some b) : lt b a = false := by
  obtain ⟨h1, rfl⟩ := List.getElem?_eq_some_iff.1 ha
  obtain ⟨h2, rfl⟩ := List.getElem?_eq_some_iff.1 hb
  exact List.pairwise_iff_getElem.1 hl i j h1 h2 hij
end Go.Av.St
