/-
  Groups have all rows among them, so their counts come to how many rows there are: for every input.
-/
import Derived.Test.YthadifboeggnpaaP18
import Derived.Test.YthadifboeggnpaaP14
set_option linter.unusedVariables false
set_option linter.unusedSimpArgs false
namespace Go.Av
abbrev str (l : List UInt8) : AV := .v (.string ⟨l.toArray⟩)
theorem str_of (s : ByteArray) : AV.v (.string s) = str s.data.toList := by cases s; simp
section
variable {P : Program} {c : Cls} {E : AEnv} {h : AHeap} {K : AV → AHeap → Prop}
theorem S.lenS {x : Operand} {l : List UInt8} (hx : aev E x = some (str l)) (hk : K (.v (.int .i64 l.length)) h) : ROpS P c (.lenStr x) E h K :=
  R.lenStr hx (by simpa [ByteArray.size] using hk)
theorem S.toStrS {x : Operand} {l : List UInt8} {cc : Cap} (hx : aev E x = some (.sl 1 (byteCells l) cc)) (hk : K (str l) h) : ROpS P c (.toStr x) E h K := R.toStr hx hk
theorem S.toBytesS {x : Operand} {l : List UInt8} (hx : aev E x = some (str l)) (hs : l.length ≤ maxLen) (hk : K (.sl 1 (byteCells l) .ro) h) : ROpS P c (.toBytes x) E h K :=
  R.toBytes hx (by simpa [ByteArray.size] using hs) (by simpa using hk)
abbrev u8 (b : UInt8) : AV := .v (.int .u8 b.toNat)
end
theorem callS {P : Program} {c : Cls} {E : AEnv} {h H : AHeap} {K : AV → AHeap → Prop} {f : FuncId} {args : List Operand} {avl : List AV} {x : AV} (hc : c = .act) (ha : avs E args = some avl) (hcall : ACalls P f avl h (fun x' h' => x' = x ∧ h' = H)) (hk : K x H) : ROpS P c (.call f args) E h K :=
  R.call hc ha (hcall.mono fun x' h' ⟨e1, e2⟩ => by subst e1; subst e2; exact hk)
abbrev Fits (n : Int) : Prop := -9223372036854775808 ≤ n ∧ n ≤ 9223372036854775807
theorem wrap_i64_mod (n : Int) : ∃ k : Int, IntKind.i64.wrap n = n + 18446744073709551616 * k := by
  simp only [IntKind.wrap, IntKind.bits, IntKind.signed]
  simp
  split
  · exact ⟨-(n / 18446744073709551616) - 1, by omega⟩
  · exact ⟨-(n / 18446744073709551616), by omega⟩
theorem wrap_i64_fits (n : Int) : Fits (IntKind.i64.wrap n) := by
  simp only [IntKind.wrap, IntKind.bits, IntKind.signed]
  simp
  split <;> omega
theorem wrap_i64_nat {n : Nat} (h : n < 18446744073709551616) : IntKind.i64.wrap (n : Int) < 0 ↔ 9223372036854775808 ≤ n := by
  simp only [IntKind.wrap, IntKind.bits, IntKind.signed]
  simp
  split <;> omega
theorem msb_ofInt {a : Int} (ha : Fits a) : (BitVec.ofInt 64 a).msb = decide (a < 0) := by
  rw [BitVec.msb_eq_toInt, BitVec.toInt_ofInt, Int.bmod_def]
  simp
  split <;> omega
theorem xor_sign {a b : Int} (ha : Fits a) (hb : Fits b) : IntKind.i64.wrap ((BitVec.ofInt 64 a ^^^ BitVec.ofInt 64 b).toNat : Int) < 0 ↔ ¬ (a < 0 ↔ b < 0) := by
  rw [wrap_i64_nat (by have := (BitVec.ofInt 64 a ^^^ BitVec.ofInt 64 b).isLt; simpa using this)]
  have h1 := BitVec.msb_eq_decide (BitVec.ofInt 64 a ^^^ BitVec.ofInt 64 b)
  rw [BitVec.msb_xor, msb_ofInt ha, msb_ofInt hb] at h1
  generalize (BitVec.ofInt 64 a ^^^ BitVec.ofInt 64 b).toNat = m at h1 ⊢
  by_cases h2 : a < 0 <;> by_cases h3 : b < 0 <;> simp only [h2, h3, decide_true, decide_false, Bool.xor_self, Bool.xor_false, Bool.xor_true, Bool.false_xor, Bool.true_xor, Bool.not_true, Bool.not_false, eq_comm (a := false), eq_comm (a := true), decide_eq_true_eq, decide_eq_false_iff_not] at h1 ⊢ <;> simp <;> omega
theorem fdiv_sign {x : Int} (hx : Fits x) : x.fdiv (2 ^ 63) = 0 ↔ ¬ x < 0 := by
  rw [Int.fdiv_eq_ediv_of_nonneg _ (by decide)]
  have : (2 : Int) ^ 63 = 9223372036854775808 := by decide
  rw [this]
  omega
theorem tdiv_wrap {a b : Int} (hb : Fits b) (h0 : b ≠ 0) : (IntKind.i64.wrap (a * b)).tdiv b = a ↔ IntKind.i64.wrap (a * b) = a * b := by
  constructor
  · intro h
    obtain ⟨k, hk⟩ := wrap_i64_mod (a * b)
    have h1 := Int.mul_tdiv_add_tmod (IntKind.i64.wrap (a * b)) b
    rw [h] at h1
    have h3 : ((IntKind.i64.wrap (a * b)).tmod b).natAbs < b.natAbs := by
      rw [Int.natAbs_tmod]; exact Nat.mod_lt _ (by omega)
    have h4 : b * a = a * b := Int.mul_comm _ _
    rw [h4] at h1
    omega
  · intro h
    rw [h]
    exact Int.mul_tdiv_cancel a h0
def Foot (C : Nat → Prop) (h h' : AHeap) : Prop := ∀ x o, h x = some o → ¬ C x → h' x = some o
theorem Foot.refl (C : Nat → Prop) (h : AHeap) : Foot C h h := fun _ _ e _ => e
theorem Foot.trans {C C' : Nat → Prop} {h h' h'' : AHeap} (f : Foot C h h') (f' : Foot C' h' h'') (hc : ∀ x, C' x → C x ∨ h x = none) : Foot C h h'' := fun x o e hn =>
  f' x o (f x o e hn) (fun hc' => (hc x hc').elim hn (fun e' => by rw [e] at e'; cases e'))
structure Client (I : (Nat → Prop) → AHeap → Prop) : Prop where
  own : ∀ C h, I C h → ∀ x, C x → h x ≠ none
  loc : ∀ C h h', I C h → (∀ x, C x → h' x = h x) → I C h'
def TokC (c : Cap) (x : Nat) : Prop := ∃ u s, c = .tok x u s
def OwnT (h : AHeap) (c : Cap) : Prop := c = .full ∨ ∃ b u s, c = .tok b u s ∧ h b = some (.grow u s)
theorem ownT_loc {h h' : AHeap} {c : Cap} (ho : OwnT h c) (hl : ∀ x, TokC c x → h' x = h x) : OwnT h' c := by
  rcases ho with rfl | ⟨b, u', s', rfl, hb⟩
  · exact .inl rfl
  · exact .inr ⟨b, u', s', rfl, by rw [hl b ⟨u', s', rfl⟩]; exact hb⟩
theorem S.appendT {P : Program} {c : Cls} {E : AEnv} {h : AHeap} {K : AV → AHeap → Prop} {sz bytes : Nat} {zero : List Value} {x y : Operand} {d s : AV} {xs ys : List (List AV)} {c0 : Cap} (hc : c = .act) (hg : OwnT h c0) (hx : aev E x = some d) (hd : Dst sz d xs c0) (hy : aev E y = some s) (hs : Src sz s ys)
    (hone : ∀ e ∈ ys, ∀ a ∈ e, a.one = true) (hlen : xs.length + ys.length ≤ 4611686018427387904) (hroom : (xs.length + ys.length) * bytes ≤ 140737488355328)
    (hk : ∀ c' h', OwnT h' c' → (∀ x o, h x = some o → ¬ TokC c0 x → h' x = some o) → (∀ x, TokC c' x → TokC c0 x ∨ h x = none) → K (.sl sz (xs ++ ys) c') h') : ROpS P c (.append sz bytes zero x y) E h K := by
  obtain ⟨h₁, ho, h1, h2⟩ : ∃ h₁, Own h₁ c0 h ∧ (∀ x o, h x = some o → ¬ TokC c0 x → h₁ x = some o) ∧ (∀ x, h₁ x = none → TokC c0 x ∨ h x = none) := by
    rcases hg with rfl | ⟨b, u, s', rfl, hb⟩
    · exact ⟨h, .full, fun _ _ e _ => e, fun _ e => .inr e⟩
    · refine ⟨h.del b, ?_, fun x o e hn => ?_, fun x e => ?_⟩
      · have := Own.tok (h₀ := h.del b) (b := b) (u := u) (s := s') (AHeap.del_same h b)
        have e : (h.del b).set b (.grow u s') = h := by
          funext x
          by_cases hx : x = b
          · subst hx; simp [hb]
          · rw [AHeap.set_other _ _ hx, AHeap.del_other _ hx]
        rwa [e] at this
      · have hx : x ≠ b := fun e' => hn ⟨u, s', by rw [e']⟩
        rw [AHeap.del_other _ hx]; exact e
      · by_cases hx : x = b
        · exact .inl ⟨u, s', by rw [hx]⟩
        · rw [AHeap.del_other _ hx] at e; exact .inr e
  refine R.append hc hx hd ho hy hs hone hlen hroom fun c' h' ho' => ?_
  cases ho' with
  | full => exact hk _ _ (.inl rfl) h1 (fun x ⟨u, s, e⟩ => by cases e)
  | tok hb =>
    rename_i b u s'
    refine hk _ _ (.inr ⟨b, u, s', rfl, AHeap.set_same _ _ _⟩) (fun x o e hn => ?_) (fun x ⟨u', s2, e⟩ => by cases e; exact h2 b hb)
    exact AHeap.get_fresh hb (h1 x o e hn)
end Go.Av
