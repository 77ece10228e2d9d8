/-
  AdyaDeps answers true for every history
-/
import Derived.Test.YthfolomknkobkaaP24
set_option linter.unusedVariables false
namespace Go.Av
theorem RChain1.mono {P : Program} {i : RItem} {E : AEnv} {h : AHeap} {K K' : AEnv → AHeap → Prop} (hc : RChain P [i] E h K) (hk : ∀ E1 h, K E1 h → K' E1 h) : RChain P [i] E h K' := by
  simp only [RChain] at hc ⊢
  cases hb : i.want E with
  | none => rw [hb] at hc; exact absurd hc id
  | some b =>
    rw [hb] at hc
    cases b with
    | true => exact ROpS.mono hc fun x h' hx => hk _ _ hx
    | false => exact hk _ _ hc
theorem RTreeS.mono {P : Program} {K K' : AEnv → AHeap → Prop} (hK : ∀ E1 h, K E1 h → K' E1 h) : ∀ (t : RTree) (E : AEnv) (h : AHeap), RTreeS P K t E h → RTreeS P K' t E h
  | .done, E, h, H => hK _ _ H
  | .step i t, E, h, H => RChain1.mono H fun E1 h' H' => RTreeS.mono hK t E1 h' H'
  | .alt i t r, E, h, H => ⟨RChain1.mono H.1 fun E1 h' H' => RTreeS.mono hK t E1 h' H', RTreeS.mono hK r E h H.2⟩
  | .stop, _, _, _ => trivial
theorem S.tree {P : Program} {ro : Option Nat} {n : Nat} {Q : Option Code → AEnv → AHeap → Prop} {t : RTree} {k : List RT} {E : AEnv} {h : AHeap} {α : Type} (l : α → List (Nat × AV)) (hh : α → AHeap) (ok : α → Prop)
    (H : RTreeS P (fun E' h' => ∃ a, ok a ∧ h' = hh a ∧ ∀ t x, Env.get (l a) t = some x → E' t = some x) t E h)
    (hk : ∀ a, ok a → RRunG P ro n k (Env.get (l a)) (hh a) Q) : RRunG P ro n (.code (.regionT t) :: k) E h Q :=
  S.regionT (RTreeS.mono (fun E' h' ⟨a, h1, h2, h3⟩ => by subst h2; exact RRun.weaken h3 (fun w hr => ⟨hr, .refl _ w⟩) (hk a h1)) t E h H)
structure Halt (p : Prop) : Prop where
  h : p
end Go.Av
