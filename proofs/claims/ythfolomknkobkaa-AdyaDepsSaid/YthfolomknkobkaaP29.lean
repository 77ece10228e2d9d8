/-
  AdyaDeps answers true for every history
-/
import Derived.Test.YthfolomknkobkaaP28
set_option linter.unusedVariables false
namespace Go.Av
theorem RRun.freezeS {P : Program} {ro : Option Nat} {n : Nat} {l : List (Nat × AV)} {h : AHeap} {Q : Option Code → AEnv → AHeap → Prop} {k : List RT} {t br cap len sz : Nat} {es : List (List AV)} {sp : List AV} (hlen : len = es.length) (hl : Env.get l t = some (slAt br 0 len cap))
    (hrow : h br = some (.box (es.flatten ++ sp))) (hes : ∀ e ∈ es, e.length = sz) (hc : es.length ≤ cap) (hmax : cap ≤ maxLen) (H : RRunG P ro n k (Env.get ((t, .sl sz es .ro) :: l)) (h.del br) Q) : RRunG P ro n k (Env.get l) h Q := by
  subst hlen
  intro todo ht ds a w hs b cs hb
  have hr := hs.rel
  have r1 := hr.del br
  have e1 := Evol.del h w br
  obtain ⟨y, hy, cc, tt, rfl, hvr⟩ := hr br _ hrow
  have hvr' := hvr.mono e1.stab
  have hfl : VRels (stab (h.del br) w) es.flatten (cc.toList.take es.flatten.length) := by
    have := hvr'.take es.flatten.length
    rw [List.take_append_of_le_length (Nat.le_refl _), List.take_of_length_le (Nat.le_refl _)] at this
    exact this
  have hold : holdsAt (stab (h.del br) w) br 0 (cc.toList.take es.flatten.length) := fun j v hj => by
    rw [List.getElem?_take] at hj
    split at hj
    · simp only [stab, AHeap.del_same]
      rw [cell_of_cells hy, Nat.zero_add]
      simpa using hj
    · cases hj
  have hnew : VRel (stab (h.del br) w) (.sl sz es .ro) (.slice (some ⟨br, 0, none⟩) es.length cap) := VRel.sl (st := stab (h.del br) w) sz es .ro br 0 cap _ hfl hold hes hc hmax trivial
  have hs' : St n ds (Env.get ((t, .sl sz es .ro) :: l)) (h.del br) a w := ⟨hs.defers, hs.size, fun t' x hx => by
    by_cases he : t' = t
    · subst he
      obtain ⟨u, h1, h2⟩ := hs.env t' _ hl
      have hu := h2.inv_v
      subst hu
      have : x = .sl sz es .ro := by simpa [Env.get] using hx.symm
      subst this
      exact ⟨_, h1, hnew⟩
    · have hx' : Env.get l t' = some x := by
        simp only [Env.get] at hx
        have : Nat.beq t' t = false := by cases hb : Nat.beq t' t with | false => rfl | true => exact absurd (Nat.eq_of_beq_eq_true hb) he
        rwa [this] at hx
      obtain ⟨u, h1, h2⟩ := hs.env t' x hx'
      exact ⟨u, h1, h2.mono e1.stab⟩, r1⟩
  obtain ⟨a', w', t', j, E'', h'', ms, s, q1, q2, q3, q4, q5⟩ := H todo ht ds a w hs' b cs hb
  exact ⟨a', w', t', j, E'', h'', ms, s, q1, q2, q3, e1.trans q4, q5⟩
end Go.Av
