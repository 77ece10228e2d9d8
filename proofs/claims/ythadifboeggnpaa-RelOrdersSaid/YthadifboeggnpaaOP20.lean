/-
  sorting rows only puts them in another order, and none behind a greater one: for every input
-/
import Derived.Test.YthadifboeggnpaaOP18
import Derived.Test.YthadifboeggnpaaOP19
set_option linter.unusedVariables false
set_option linter.unusedSimpArgs false
namespace Go.Av
abbrev str (l : List UInt8) : AV := .v (.string ⟨l.toArray⟩)
theorem str_of (s : ByteArray) : AV.v (.string s) = str s.data.toList := by cases s; simp
theorem mk_toList (l : List UInt8) : (⟨l.toArray⟩ : ByteArray).toList = l := by
  simp
section
variable {P : Program} {c : Cls} {E : AEnv} {h : AHeap} {K : AV → AHeap → Prop}
theorem S.lenS {x : Operand} {l : List UInt8} (hx : aev E x = some (str l)) (hk : K (.v (.int .i64 l.length)) h) : ROpS P c (.lenStr x) E h K :=
  R.lenStr hx (by simpa [ByteArray.size] using hk)
abbrev u8 (b : UInt8) : AV := .v (.int .u8 b.toNat)
end
theorem callS {P : Program} {c : Cls} {E : AEnv} {h H : AHeap} {K : AV → AHeap → Prop} {f : FuncId} {args : List Operand} {avl : List AV} {x : AV} (hc : c = .act) (ha : avs E args = some avl) (hcall : ACalls P f avl h (fun x' h' => x' = x ∧ h' = H)) (hk : K x H) : ROpS P c (.call f args) E h K :=
  R.call hc ha (hcall.mono fun x' h' ⟨e1, e2⟩ => by subst e1; subst e2; exact hk)
theorem callU {P : Program} {c : Cls} {E : AEnv} {h H : AHeap} {K : AV → AHeap → Prop} {f : FuncId} {args : List Operand} {avl : List AV} (hc : c = .act) (ha : avs E args = some avl) (hcall : ACalls P f avl h (fun _ h' => h' = H)) (hk : ∀ x, K x H) : ROpS P c (.call f args) E h K :=
  R.call hc ha (hcall.mono fun x' h' e => by subst e; exact hk x')
abbrev Fits (n : Int) : Prop := -9223372036854775808 ≤ n ∧ n ≤ 9223372036854775807
def Foot (C : Nat → Prop) (h h' : AHeap) : Prop := ∀ x o, h x = some o → ¬ C x → h' x = some o
theorem Foot.refl (C : Nat → Prop) (h : AHeap) : Foot C h h := fun _ _ e _ => e
theorem Foot.trans {C C' : Nat → Prop} {h h' h'' : AHeap} (f : Foot C h h') (f' : Foot C' h' h'') (hc : ∀ x, C' x → C x ∨ h x = none) : Foot C h h'' := fun x o e hn =>
  f' x o (f x o e hn) (fun hc' => (hc x hc').elim hn (fun e' => by rw [e] at e'; cases e'))
structure Client (I : (Nat → Prop) → AHeap → Prop) : Prop where
  own : ∀ C h, I C h → ∀ x, C x → h x ≠ none
  loc : ∀ C h h', I C h → (∀ x, C x → h' x = h x) → I C h'
end Go.Av
