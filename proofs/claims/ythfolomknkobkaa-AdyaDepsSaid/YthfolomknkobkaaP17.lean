/-
  AdyaDeps answers true for every history
-/
import Derived.Test.YthfolomknkobkaaP16
set_option linter.unusedVariables false
namespace Go.Av
theorem S.eqIntSame {P : Program} {c : Cls} {E : AEnv} {h : AHeap} {K : AV → AHeap → Prop} {neg : Bool} {kk : EqK} {x y : Operand} {k : IntKind} {a : Int} (hx : aev E x = some (.v (.int k a))) (hy : aev E y = some (.v (.int k a))) (hk : K (.v (.bool (!neg))) h) : ROpS P c (.eq neg kk x y) E h K := by
  refine R.eqInt hx hy ?_
  cases neg <;> simpa using hk
inductive LeEnv : List (Tmp × AV) → List (Tmp × AV) → Prop
  | nil : LeEnv [] []
  | cons (t : Tmp) {x y : AV} {l l' : List (Tmp × AV)} : ALe x y → LeEnv l l' → LeEnv ((t, x) :: l) ((t, y) :: l')
theorem LeEnv.get {l l' : List (Tmp × AV)} (H : LeEnv l l') : ∀ t y, Env.get l' t = some y → ∃ x, Env.get l t = some x ∧ ALe x y := by
  induction H with
  | nil => intro t y e; cases e
  | @cons t' x' y' l l' hx hl ih =>
    intro t y e
    simp only [Env.get] at e ⊢
    split at e
    · cases e; exact ⟨_, rfl, hx⟩
    · exact ih t y e
theorem RRun.envs {P : Program} {ro : Option Nat} {n : Nat} {h : AHeap} {Q : Option Code → AEnv → AHeap → Prop} {k : List RT} {l l' : List (Tmp × AV)} (H : LeEnv l l') (R : RRunG P ro n k (Env.get l') h Q) : RRunG P ro n k (Env.get l) h Q :=
  RRun.env H.get R
theorem ALe.sl {sz : Nat} {es es' : List (List AV)} {c : Cap} (hf : ALes es.flatten es'.flatten) (hl : es.length = es'.length) (hs : ∀ e ∈ es', e.length = sz) : ALe (.sl sz es c) (.sl sz es' c) := fun st u h => by
  cases h with
  | sl _ _ _ b off cap vs h1 h2 h3 h4 h5 h6 => rw [hl] at h4 h6 ⊢; exact .sl sz es' c b off cap vs (hf.rel h1) h2 hs h4 h5 h6
  | nil _ _ a h =>
    have : es' = [] := List.eq_nil_of_length_eq_zero hl.symm
    subst this; exact .nil sz c a h
end Go.Av
