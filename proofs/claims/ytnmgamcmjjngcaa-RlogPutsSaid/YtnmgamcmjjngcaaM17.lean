import Derived.Test.YtnmgamcmjjngcaaM16
set_option linter.unusedVariables false
set_option linter.unusedSimpArgs false
namespace Go.Proofs.Ytnmgamcmjjngcaa
open Go.Av

/-! ### Lists that rise -/
abbrev Rise (l : List UInt64) : Prop := l.Pairwise (· < ·)

theorem rise_ext : ∀ (a b : List UInt64), Rise a → Rise b → (∀ x, x ∈ a ↔ x ∈ b) → a = b
  | [], [], _, _, _ => rfl
  | [], y :: b, _, _, h => absurd ((h y).2 (by simp)) (by simp)
  | x :: a, [], _, _, h => absurd ((h x).1 (by simp)) (by simp)
  | x :: a, y :: b, ha, hb, h => by
    have ha' := List.pairwise_cons.1 ha
    have hb' := List.pairwise_cons.1 hb
    have hxy : x = y := by
      rcases List.mem_cons.1 ((h x).1 (by simp)) with e | e
      · exact e
      · rcases List.mem_cons.1 ((h y).2 (by simp)) with e' | e'
        · exact e'.symm
        · have h1 := hb'.1 x e
          have h2 := ha'.1 y e'
          rw [UInt64.lt_iff_toNat_lt] at h1 h2
          omega
    subst hxy
    congr 1
    refine rise_ext a b ha'.2 hb'.2 fun z => ?_
    have hz := h z
    constructor
    · intro hza
      rcases List.mem_cons.1 (hz.1 (by simp [hza])) with e | e
      · subst e
        have := ha'.1 z hza
        rw [UInt64.lt_iff_toNat_lt] at this; omega
      · exact e
    · intro hzb
      rcases List.mem_cons.1 (hz.2 (by simp [hzb])) with e | e
      · subst e
        have := hb'.1 z hzb
        rw [UInt64.lt_iff_toNat_lt] at this; omega
      · exact e

theorem dd_mem : ∀ (l : List UInt64) (x : UInt64), x ∈ dd l ↔ x ∈ l
  | [], x => Iff.rfl
  | [y], x => Iff.rfl
  | y :: z :: r, x => by
    have ih := dd_mem (z :: r) x
    simp only [dd]
    split
    · rename_i h; subst h
      rw [ih]; simp
    · rw [List.mem_cons, ih]; simp

theorem dd_rise : ∀ (l : List UInt64), l.Pairwise (fun x y => (!ltE y x) = true) → Rise (dd l)
  | [], _ => .nil
  | [y], _ => by simp [dd]
  | y :: z :: r, h => by
    have h' := List.pairwise_cons.1 h
    have ih := dd_rise (z :: r) h'.2
    simp only [dd]
    split
    · exact ih
    · rename_i hne
      refine List.pairwise_cons.2 ⟨fun x hx => ?_, ih⟩
      have hx' := (dd_mem (z :: r) x).1 hx
      have h1 := h'.1 z (by simp)
      have hzx : z = x ∨ (!ltE x z) = true := by
        rcases List.mem_cons.1 hx' with e | e
        · exact .inl e.symm
        · exact .inr ((List.pairwise_cons.1 h'.2).1 x e)
      simp only [ltE, Bool.not_eq_true', decide_eq_false_iff_not, UInt64.lt_iff_toNat_lt] at h1 hzx ⊢
      have hne' : y.toNat ≠ z.toNat := fun e => hne (UInt64.toNat_inj.1 e)
      rcases hzx with e | e
      · subst e; omega
      · omega

theorem srt_sorted (l : List UInt64) : (srt l).Pairwise (fun x y => (!ltE y x) = true) :=
  List.pairwise_mergeSort (fun a b c h1 h2 => by
    simp only [ltE, Bool.not_eq_true', decide_eq_false_iff_not, UInt64.lt_iff_toNat_lt] at *; omega) (fun a b => by
    simp only [ltE, Bool.or_eq_true, Bool.not_eq_true', decide_eq_false_iff_not, UInt64.lt_iff_toNat_lt]; omega) l

theorem rise_ds {l out : List UInt64} (hr : Rise out) (hm : ∀ x, x ∈ out ↔ x ∈ l) : out = dd (srt l) :=
  rise_ext _ _ hr (dd_rise _ (srt_sorted l)) fun x => by rw [hm, dd_mem, (srt_perm l).mem_iff]

/-- One more is put in its place. -/
theorem rise_put {out : List UInt64} {m : UInt64} {k : Nat} (hr : Rise out) (hk : k ≤ out.length) (h1 : ∀ i y, i < k → out[i]? = some y → y < m) (h2 : ∀ y, out[k]? = some y → ¬ y < m) (h3 : out[k]? ≠ some m) : Rise (out.take k ++ ([m] ++ out.drop k)) := by
  have htd := List.take_append_drop k out
  rw [← htd] at hr
  obtain ⟨r1, r2, r3⟩ := List.pairwise_append.1 hr
  have hlow : ∀ a ∈ out.take k, a < m := fun a ha => by
    obtain ⟨i, hi⟩ := List.getElem?_of_mem ha
    rw [List.getElem?_take] at hi
    split at hi
    · rename_i hik; exact h1 i a hik hi
    · cases hi
  have hhigh : ∀ b ∈ out.drop k, m < b := fun b hb => by
    cases hd : out.drop k with
    | nil => rw [hd] at hb; cases hb
    | cons y r =>
      have hy : out[k]? = some y := by
        have : (out.drop k)[0]? = some y := by rw [hd]; rfl
        simpa using this
      have g1 := h2 y hy
      have g2 : y ≠ m := fun e => h3 (e ▸ hy)
      have g3 : m < y := by
        rw [UInt64.lt_iff_toNat_lt] at g1 ⊢
        have : y.toNat ≠ m.toNat := fun e => g2 (UInt64.toNat_inj.1 e)
        omega
      rw [hd] at hb r2
      rcases List.mem_cons.1 hb with e | e
      · subst e; exact g3
      · have := (List.pairwise_cons.1 r2).1 b e
        rw [UInt64.lt_iff_toNat_lt] at *; omega
  refine List.pairwise_append.2 ⟨r1, List.pairwise_append.2 ⟨by simp, r2, fun a ha b hb => ?_⟩, fun a ha b hb => ?_⟩
  · simp only [List.mem_singleton] at ha; subst ha; exact hhigh b hb
  · rcases List.mem_append.1 hb with hb | hb
    · simp only [List.mem_singleton] at hb; subst hb; exact hlow a ha
    · have g1 := hlow a ha
      have g2 := hhigh b hb
      rw [UInt64.lt_iff_toNat_lt] at *; omega

end Go.Proofs.Ytnmgamcmjjngcaa
