/-
  TxnNone answers true for every input: an engine that nobody made does nothing
-/
import Derived.Test.YtpgkpiodekdlnaaGreatP17
import Derived.Test.YtpgkpiodekdlnaaGreatP14
set_option linter.unusedVariables false
set_option linter.unusedSimpArgs false
namespace Go.Av
abbrev str (l : List UInt8) : AV := .v (.string ⟨l.toArray⟩)
theorem str_of (s : ByteArray) : AV.v (.string s) = str s.data.toList := by cases s; simp
section
variable {P : Program} {c : Cls} {E : AEnv} {h : AHeap} {K : AV → AHeap → Prop}
abbrev u8 (b : UInt8) : AV := .v (.int .u8 b.toNat)
end
def Foot (C : Nat → Prop) (h h' : AHeap) : Prop := ∀ x o, h x = some o → ¬ C x → h' x = some o
theorem Foot.refl (C : Nat → Prop) (h : AHeap) : Foot C h h := fun _ _ e _ => e
theorem Foot.trans {C C' : Nat → Prop} {h h' h'' : AHeap} (f : Foot C h h') (f' : Foot C' h' h'') (hc : ∀ x, C' x → C x ∨ h x = none) : Foot C h h'' := fun x o e hn =>
  f' x o (f x o e hn) (fun hc' => (hc x hc').elim hn (fun e' => by rw [e] at e'; cases e'))
structure Client (I : (Nat → Prop) → AHeap → Prop) : Prop where
  own : ∀ C h, I C h → ∀ x, C x → h x ≠ none
  loc : ∀ C h h', I C h → (∀ x, C x → h' x = h x) → I C h'
end Go.Av
