/-
  AdyaDeps answers true for every history
-/
import Derived.Test.YthfolomknkobkaaP18
import Derived.Test.YthfolomknkobkaaP26
set_option linter.unusedVariables false
set_option linter.unusedSimpArgs false
namespace Go.Av
abbrev str (l : List UInt8) : AV := .v (.string ⟨l.toArray⟩)
theorem str_of (s : ByteArray) : AV.v (.string s) = str s.data.toList := by cases s; simp
theorem mk_toList (l : List UInt8) : (⟨l.toArray⟩ : ByteArray).toList = l := by
  simp
section
variable {P : Program} {c : Cls} {E : AEnv} {h : AHeap} {K : AV → AHeap → Prop}
theorem S.toBytesS {x : Operand} {l : List UInt8} (hx : aev E x = some (str l)) (hs : l.length ≤ maxLen) (hk : K (.sl 1 (byteCells l) .ro) h) : ROpS P c (.toBytes x) E h K :=
  R.toBytes hx (by simpa [ByteArray.size] using hs) (by simpa using hk)
abbrev u8 (b : UInt8) : AV := .v (.int .u8 b.toNat)
end
theorem callU {P : Program} {c : Cls} {E : AEnv} {h H : AHeap} {K : AV → AHeap → Prop} {f : FuncId} {args : List Operand} {avl : List AV} (hc : c = .act) (ha : avs E args = some avl) (hcall : ACalls P f avl h (fun _ h' => h' = H)) (hk : ∀ x, K x H) : ROpS P c (.call f args) E h K :=
  R.call hc ha (hcall.mono fun x' h' e => by subst e; exact hk x')
def Foot (C : Nat → Prop) (h h' : AHeap) : Prop := ∀ x o, h x = some o → ¬ C x → h' x = some o
theorem Foot.refl (C : Nat → Prop) (h : AHeap) : Foot C h h := fun _ _ e _ => e
theorem Foot.trans {C C' : Nat → Prop} {h h' h'' : AHeap} (f : Foot C h h') (f' : Foot C' h' h'') (hc : ∀ x, C' x → C x ∨ h x = none) : Foot C h h'' := fun x o e hn =>
  f' x o (f x o e hn) (fun hc' => (hc x hc').elim hn (fun e' => by rw [e] at e'; cases e'))
def YStep (P : Program) (l : Nat) (as : List AV) (C : Nat → Prop) (h : AHeap) (N S : (Nat → Prop) → AHeap → Prop) : Prop :=
  AYield P l as h (fun b h' => ∃ C', (∀ x, C' x → C x ∨ h x = none) ∧ Foot C h h' ∧ (if b then N C' h' else S C' h'))
structure Client (I : (Nat → Prop) → AHeap → Prop) : Prop where
  own : ∀ C h, I C h → ∀ x, C x → h x ≠ none
  loc : ∀ C h h', I C h → (∀ x, C x → h' x = h x) → I C h'
def TokC (c : Cap) (x : Nat) : Prop := ∃ u s, c = .tok x u s
def OwnT (h : AHeap) (c : Cap) : Prop := c = .full ∨ ∃ b u s, c = .tok b u s ∧ h b = some (.grow u s)
theorem ownT_own {h : AHeap} {c : Cap} (ho : OwnT h c) : ∀ x, TokC c x → h x ≠ none := fun x ⟨u, s, e⟩ => by
  rcases ho with rfl | ⟨b, u', s', rfl, hb⟩
  · cases e
  · cases e; rw [hb]; simp
theorem ownT_loc {h h' : AHeap} {c : Cap} (ho : OwnT h c) (hl : ∀ x, TokC c x → h' x = h x) : OwnT h' c := by
  rcases ho with rfl | ⟨b, u', s', rfl, hb⟩
  · exact .inl rfl
  · exact .inr ⟨b, u', s', rfl, by rw [hl b ⟨u', s', rfl⟩]; exact hb⟩
theorem S.appendT {P : Program} {c : Cls} {E : AEnv} {h : AHeap} {K : AV → AHeap → Prop} {sz bytes : Nat} {zero : List Value} {x y : Operand} {d s : AV} {xs ys : List (List AV)} {c0 : Cap} (hc : c = .act) (hg : OwnT h c0) (hx : aev E x = some d) (hd : Dst sz d xs c0) (hy : aev E y = some s) (hs : Src sz s ys)
    (hone : ∀ e ∈ ys, ∀ a ∈ e, a.one = true) (hlen : xs.length + ys.length ≤ 4611686018427387904) (hroom : (xs.length + ys.length) * bytes ≤ 140737488355328)
    (hk : ∀ c' h', OwnT h' c' → (∀ x o, h x = some o → ¬ TokC c0 x → h' x = some o) → (∀ x, TokC c' x → TokC c0 x ∨ h x = none) → K (.sl sz (xs ++ ys) c') h') : ROpS P c (.append sz bytes zero x y) E h K := by
  obtain ⟨h₁, ho, h1, h2⟩ : ∃ h₁, Own h₁ c0 h ∧ (∀ x o, h x = some o → ¬ TokC c0 x → h₁ x = some o) ∧ (∀ x, h₁ x = none → TokC c0 x ∨ h x = none) := by
    rcases hg with rfl | ⟨b, u, s', rfl, hb⟩
    · exact ⟨h, .full, fun _ _ e _ => e, fun _ e => .inr e⟩
    · refine ⟨h.del b, ?_, fun x o e hn => ?_, fun x e => ?_⟩
      · have := Own.tok (h₀ := h.del b) (b := b) (u := u) (s := s') (AHeap.del_same h b)
        have e : (h.del b).set b (.grow u s') = h := by
          funext x
          by_cases hx : x = b
          · subst hx; simp [hb]
          · rw [AHeap.set_other _ _ hx, AHeap.del_other _ hx]
        rwa [e] at this
      · have hx : x ≠ b := fun e' => hn ⟨u, s', by rw [e']⟩
        rw [AHeap.del_other _ hx]; exact e
      · by_cases hx : x = b
        · exact .inl ⟨u, s', by rw [hx]⟩
        · rw [AHeap.del_other _ hx] at e; exact .inr e
  refine R.append hc hx hd ho hy hs hone hlen hroom fun c' h' ho' => ?_
  cases ho' with
  | full => exact hk _ _ (.inl rfl) h1 (fun x ⟨u, s, e⟩ => by cases e)
  | tok hb =>
    rename_i b u s'
    refine hk _ _ (.inr ⟨b, u, s', rfl, AHeap.set_same _ _ _⟩) (fun x o e hn => ?_) (fun x ⟨u', s2, e⟩ => by cases e; exact h2 b hb)
    exact AHeap.get_fresh hb (h1 x o e hn)
end Go.Av
