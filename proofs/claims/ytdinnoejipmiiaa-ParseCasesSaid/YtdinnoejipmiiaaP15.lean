/-
  ParseCases answers true for every text: a text without a quote reads the same, small or great its letters. No condition.
-/
import Derived.Test.YtdinnoejipmiiaaP14
set_option linter.unusedVariables false
namespace Go.Av
structure Grow (h₀ h : AHeap) (c : Cap) : Prop where
  le : h₀.le h
  tok : c = .full ∨ ∃ b u s, c = .tok b u s ∧ h b = some (.grow u s) ∧ h₀ b = none
theorem Grow.of_le {h₀ h : AHeap} (hle : h₀.le h) : Grow h₀ h .full := ⟨hle, .inl rfl⟩
theorem Grow.base {h₀ h : AHeap} {c : Cap} (hg : Grow h₀ h c) {b : Nat} (o : ABlk) (hb : h b = none) : Grow h₀ (h.set b o) c := by
  have h0 : h₀ b = none := by
    cases he : h₀ b with
    | none => rfl
    | some y => obtain ⟨o', h1, _⟩ := hg.le b y he; rw [hb] at h1; cases h1
  refine ⟨hg.le.set o h0, ?_⟩
  rcases hg.tok with hc | ⟨x, u, s, h1, h2, h3⟩
  · exact .inl hc
  · exact .inr ⟨x, u, s, h1, AHeap.get_fresh hb h2, h3⟩
theorem Grow.setBox {h₀ h : AHeap} {c : Cap} (hg : Grow h₀ h c) {b : Nat} {cs : List AV} (cs' : List AV) (hb : h b = some (.box cs)) (h0 : h₀ b = none) : Grow h₀ (h.set b (.box cs')) c := by
  refine ⟨hg.le.set _ h0, ?_⟩
  rcases hg.tok with hc | ⟨x, u, s, h1, h2, h3⟩
  · exact .inl hc
  · refine .inr ⟨x, u, s, h1, ?_, h3⟩
    rw [AHeap.set_other]
    · exact h2
    · intro e; subst e; rw [hb] at h2; cases h2
theorem AHeap.le.none {h H : AHeap} (hle : h.le H) {b : Nat} (hb : H b = none) : h b = none := by
  cases he : h b with
  | none => rfl
  | some y => obtain ⟨o', h1, _⟩ := hle b y he; rw [hb] at h1; cases h1
theorem AHeap.le.of_del {h H : AHeap} {p : Nat} {o o' : ABlk} (hle : (h.del p).le H) (hp : H p = some o') (ho : BLe o' o) : (h.set p o).le H := fun x y e => by
  by_cases hx : x = p
  · subst hx; simp only [AHeap.set_same, Option.some.injEq] at e; subst e; exact ⟨o', hp, ho⟩
  · rw [AHeap.set_other _ _ hx] at e
    exact hle x y (by rw [AHeap.del_other _ hx]; exact e)
theorem AHeap.del_le (h : AHeap) (p : Nat) : (h.del p).le h := fun x y e => by
  by_cases hx : x = p
  · subst hx; simp at e
  · rw [AHeap.del_other _ hx] at e; exact ⟨y, e, .refl y⟩
section
variable {P : Program} {c : Cls} {E : AEnv} {h : AHeap} {K : AV → AHeap → Prop}
theorem Grow.own {h₀ h : AHeap} {c : Cap} (hg : Grow h₀ h c) : ∃ h₁, Own h₁ c h ∧ h₀.le h₁ ∧ (∀ x cs, h x = some (.box cs) → h₁ x = some (.box cs)) := by
  rcases hg.tok with rfl | ⟨b, u, s, rfl, h2, h3⟩
  · exact ⟨h, .full, hg.le, fun _ _ e => e⟩
  · refine ⟨h.del b, ?_, fun x o e => ?_, fun x cs e => ?_⟩
    · have := Own.tok (h₀ := h.del b) (b := b) (u := u) (s := s) (AHeap.del_same h b)
      have e : (h.del b).set b (.grow u s) = h := by
        funext x
        by_cases hx : x = b
        · subst hx; simp [h2]
        · rw [AHeap.set_other _ _ hx, AHeap.del_other _ hx]
      rwa [e] at this
    · have hx : x ≠ b := fun e' => by subst e'; rw [h3] at e; cases e
      rw [AHeap.del_other _ hx]; exact hg.le x o e
    · have hx : x ≠ b := fun e' => by subst e'; rw [h2] at e; cases e
      rw [AHeap.del_other _ hx]; exact e
theorem Grow.of_own {h₀ h₁ h : AHeap} {c : Cap} (ho : Own h₁ c h) (hle : h₀.le h₁) : Grow h₀ h c := by
  cases ho with
  | full => exact ⟨hle, .inl rfl⟩
  | tok hb => exact ⟨hle.set _ (hle.none hb), .inr ⟨_, _, _, rfl, by simp, hle.none hb⟩⟩
theorem Own.box {h₁ h : AHeap} {c : Cap} (ho : Own h₁ c h) {x : Nat} {cs : List AV} (hx : h₁ x = some (.box cs)) : h x = some (.box cs) := by
  cases ho with
  | full => exact hx
  | tok hb => exact AHeap.get_fresh hb hx
theorem S.appendG {h₀ : AHeap} {sz bytes : Nat} {zero : List Value} {x y : Operand} {d s : AV} {xs ys : List (List AV)} {c0 : Cap} (hc : c = .act) (hg : Grow h₀ h c0) (hx : aev E x = some d) (hd : Dst sz d xs c0) (hy : aev E y = some s) (hs : Src sz s ys)
    (hone : ∀ e ∈ ys, ∀ a ∈ e, a.one = true) (hlen : xs.length + ys.length ≤ 4611686018427387904) (hroom : (xs.length + ys.length) * bytes ≤ 140737488355328)
    (hk : ∀ c' h', Grow h₀ h' c' → (∀ x cs, h x = some (.box cs) → h' x = some (.box cs)) → K (.sl sz (xs ++ ys) c') h') : ROpS P c (.append sz bytes zero x y) E h K := by
  obtain ⟨h₁, ho, hle, hbox⟩ := hg.own
  exact R.append hc hx hd ho hy hs hone hlen hroom fun c' h' ho' => hk c' h' (.of_own ho' hle) fun x cs hx => ho'.box (hbox x cs hx)
theorem ROpS.sub {r : ROp} {X Y : AV} (H : ∀ h', ROpS P .act r E h' (fun x h'' => x = X ∧ h'' = h')) (hle : ALe X Y) (hk : K Y h) : ROpS P c r E h K :=
  ROpS.of_pure (fun o ho h' ro a w h1 h2 => Oper.wpIn_mono (fun a' w' ⟨u, x, h'', e1, ⟨e2, e3⟩, e4, e5, e6⟩ => by subst e2; exact ⟨u, Y, h'', e1, ⟨rfl, e3⟩, hle _ _ e4, e5, e6⟩) (H h' o ho ro a w h1 h2)) hk
theorem optInt_int {y : Operand} {k : IntKind} {n : Int} (hy : aev E y = some (.v (.int k n))) : optInt E (some y) = some (some n) := by simp [optInt, hy]
end
end Go.Av
