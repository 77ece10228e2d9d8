/-
  TxnNone answers true for every input: an engine that nobody made does nothing
-/
import Derived.Test.YtpgkpiodekdlnaaGreatP14
set_option linter.unusedVariables false
namespace Go.Av
structure Grow (h₀ h : AHeap) (c : Cap) : Prop where
  le : h₀.le h
  tok : c = .full ∨ ∃ b u s, c = .tok b u s ∧ h b = some (.grow u s) ∧ h₀ b = none
theorem Grow.base {h₀ h : AHeap} {c : Cap} (hg : Grow h₀ h c) {b : Nat} (o : ABlk) (hb : h b = none) : Grow h₀ (h.set b o) c := by
  have h0 : h₀ b = none := by
    cases he : h₀ b with
    | none => rfl
    | some y => obtain ⟨o', h1, _⟩ := hg.le b y he; rw [hb] at h1; cases h1
  refine ⟨hg.le.set o h0, ?_⟩
  rcases hg.tok with hc | ⟨x, u, s, h1, h2, h3⟩
  · exact .inl hc
  · exact .inr ⟨x, u, s, h1, AHeap.get_fresh hb h2, h3⟩
theorem AHeap.le.none {h H : AHeap} (hle : h.le H) {b : Nat} (hb : H b = none) : h b = none := by
  cases he : h b with
  | none => rfl
  | some y => obtain ⟨o', h1, _⟩ := hle b y he; rw [hb] at h1; cases h1
section
variable {P : Program} {c : Cls} {E : AEnv} {h : AHeap} {K : AV → AHeap → Prop}
theorem Grow.own {h₀ h : AHeap} {c : Cap} (hg : Grow h₀ h c) : ∃ h₁, Own h₁ c h ∧ h₀.le h₁ ∧ (∀ x cs, h x = some (.box cs) → h₁ x = some (.box cs)) := by
  rcases hg.tok with rfl | ⟨b, u, s, rfl, h2, h3⟩
  · exact ⟨h, .full, hg.le, fun _ _ e => e⟩
  · refine ⟨h.del b, ?_, fun x o e => ?_, fun x cs e => ?_⟩
    · have := Own.tok (h₀ := h.del b) (b := b) (u := u) (s := s) (AHeap.del_same h b)
      have e : (h.del b).set b (.grow u s) = h := by
        funext x
        by_cases hx : x = b
        · subst hx; simp [h2]
        · rw [AHeap.set_other _ _ hx, AHeap.del_other _ hx]
      rwa [e] at this
    · have hx : x ≠ b := fun e' => by subst e'; rw [h3] at e; cases e
      rw [AHeap.del_other _ hx]; exact hg.le x o e
    · have hx : x ≠ b := fun e' => by subst e'; rw [h2] at e; cases e
      rw [AHeap.del_other _ hx]; exact e
theorem Own.box {h₁ h : AHeap} {c : Cap} (ho : Own h₁ c h) {x : Nat} {cs : List AV} (hx : h₁ x = some (.box cs)) : h x = some (.box cs) := by
  cases ho with
  | full => exact hx
  | tok hb => exact AHeap.get_fresh hb hx
theorem ROpS.sub {r : ROp} {X Y : AV} (H : ∀ h', ROpS P .act r E h' (fun x h'' => x = X ∧ h'' = h')) (hle : ALe X Y) (hk : K Y h) : ROpS P c r E h K :=
  ROpS.of_pure (fun o ho h' ro a w h1 h2 => Oper.wpIn_mono (fun a' w' ⟨u, x, h'', e1, ⟨e2, e3⟩, e4, e5, e6⟩ => by subst e2; exact ⟨u, Y, h'', e1, ⟨rfl, e3⟩, hle _ _ e4, e5, e6⟩) (H h' o ho ro a w h1 h2)) hk
end
end Go.Av
