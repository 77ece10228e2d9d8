/-
  AdyaDeps answers true for every history
-/
import Derived.Test.YthfolomknkobkaaP25
import Derived.Test.YthfolomknkobkaaP27
set_option linter.unusedVariables false
namespace Go.Av
open Go.ChangeShapes
def RdF (P : Program) (t : TypeId) {α : Type} (F : α → List AV) (Q : α → Prop) (n : Nat) : Prop :=
  ∀ (H : Type) (enc : TypeId × Value → H) (w : World) (fuel : Nat), fuel ≤ n → ∀ (cs : List Value) (x : DataW H × List MemPlace),
    DataW.trod enc P w 0 (fun _ => true) true fuel t cs = some x → ∃ a, Q a ∧ VRels (stab AHeap.empty w) (F a) cs
section
variable {P : Program} {t e : TypeId}
theorem RdF.of {α : Type} {F : α → List AV} {Q : α → Prop} (h : Rd P t F Q) (n : Nat) : RdF P t F Q n := fun H enc w fuel _ cs x hx => h H enc w fuel cs x hx
theorem RdF.mono {α : Type} {F : α → List AV} {Q : α → Prop} {n m : Nat} (h : RdF P t F Q n) (hm : m ≤ n) : RdF P t F Q m := fun H enc w fuel hf cs x hx => h H enc w fuel (Nat.le_trans hf hm) cs x hx
theorem RdF.zero {α : Type} {F : α → List AV} {Q : α → Prop} : RdF P t F Q 0 := fun H enc w fuel hf cs x hx => by
  obtain rfl : fuel = 0 := by omega
  simp [DataW.trod] at hx
theorem RdF.conv {α β : Type} {F : α → List AV} {Q : α → Prop} {G : β → List AV} {R : β → Prop} {n : Nat} (h : RdF P t F Q n) (g : α → β) (hg : ∀ a, Q a → R (g a) ∧ F a = G (g a)) : RdF P t G R n :=
  fun H enc w fuel hf cs x hx => let ⟨a, h1, h2⟩ := h H enc w fuel hf cs x hx; ⟨g a, (hg a h1).1, (hg a h1).2 ▸ h2⟩
theorem Rd.bytes (ht : P.underlying t = some .string) : Rd P t (fun l : List UInt8 => [Av.str l]) (fun l => l.length ≤ maxLen) :=
  (Rd.str ht).conv (fun s => s.data.toList) fun s h => ⟨by rw [Array.length_toList]; exact h, by rw [str_of]⟩
theorem RdF.slice {α : Type} {F : α → List AV} {Q : α → Prop} {sz m : Nat} (ht : P.underlying t = some (.slice e)) (he : RdF P e F Q m) (hsz : P.cellsOf e = sz) (hF : ∀ a, (F a).length = sz) (hpos : 0 < sz) :
    RdF P t (fun l : List α => [.sl sz (l.map F) .ro]) (fun l => l.length ≤ maxLen ∧ ∀ a ∈ l, Q a) (m + 1) := fun H enc w fuel hfm cs x hx => by
  rcases DataW.trod_slice ht hx with ⟨rfl, _⟩ | ⟨a, len, cap, elems, rest, n, hfu, rfl, _, hb, hl, hm, hlen, hel, hsp, _⟩
  · exact ⟨[], ⟨by simp, by simp⟩, .cons (.nil sz .ro none trivial) .nil⟩
  · obtain ⟨hrl, hr⟩ := hsp rfl
    obtain ⟨bb, off, spot⟩ := a
    by_cases hc0 : cap = 0
    · subst hc0
      obtain rfl : len = 0 := by omega
      exact ⟨[], ⟨by simp, by simp⟩, .cons (.nil sz .ro _ trivial) .nil⟩
    · have hcell : ∃ ccs, w.cells? 0 ((⟨bb, off, spot⟩ : Addr).add (0 * P.cellsOf e)) (P.cellsOf e) = some ccs := by
        by_cases hl0 : 0 < len
        · have h0 := hel 0 hl0
          rw [List.getElem?_eq_getElem (by omega), Option.bind_eq_some_iff] at h0
          obtain ⟨ccs, h1, _⟩ := h0
          exact ⟨ccs, h1⟩
        · have h0 := hr 0 (by omega)
          rw [List.getElem?_eq_getElem (by omega), Option.bind_eq_some_iff, show len + 0 = 0 by omega] at h0
          obtain ⟨ccs, h1, _⟩ := h0
          exact ⟨ccs, h1⟩
      obtain ⟨ccs, hccs⟩ := hcell
      have hspot : spot = none := by
        obtain ⟨_, q2, q3⟩ := World.cells?_some hccs
        have := q3 0 (by omega)
        rw [List.getElem?_eq_getElem (by omega)] at this
        simpa [Addr.add] using World.cell?_spot this
      subst hspot
      obtain ⟨L, hLl, hL⟩ := exists_list (R := fun i (y : α × List Value) => Q y.1 ∧ VRels (stab AHeap.empty w) (F y.1) y.2 ∧ w.cells? 0 ((⟨bb, off, none⟩ : Addr).add (i * P.cellsOf e)) (P.cellsOf e) = some y.2) len (fun i hi => by
        have h0 := hel i hi
        rw [List.getElem?_eq_getElem (by omega), Option.bind_eq_some_iff] at h0
        obtain ⟨cc, h1, h2⟩ := h0
        obtain ⟨a, g1, g2⟩ := he H enc w _ (by omega) _ _ h2
        exact ⟨(a, cc), g1, g2, h1⟩)
      have hmem : ∀ y ∈ L, Q y.1 ∧ VRels (stab AHeap.empty w) (F y.1) y.2 := fun y hy => by
        obtain ⟨i, hi⟩ := List.getElem?_of_mem hy
        exact ⟨(hL i y hi).1, (hL i y hi).2.1⟩
      refine ⟨L.map (·.1), ⟨by simp only [List.length_map]; omega, fun a ha => ?_⟩, .cons ?_ .nil⟩
      · obtain ⟨y, hy, rfl⟩ := List.mem_map.1 ha
        exact (hmem y hy).1
      · have hv := VRels.flatten (F := F) fun y hy => (hmem y hy).2
        have hh : holdsAt (stab AHeap.empty w) bb off ((L.map (·.2)).flatten) := holdsAt_flatten (sz := sz) fun j y hy => by
          rw [List.getElem?_map, Option.map_eq_some_iff] at hy
          obtain ⟨z, hz, rfl⟩ := hy
          obtain ⟨_, _, h3⟩ := hL j z hz
          obtain ⟨_, q2, q3⟩ := World.cells?_some h3
          rw [hsz] at q2 q3
          refine ⟨q2, fun i u hi => ?_⟩
          have hlt := (List.getElem?_eq_some_iff.1 hi).1
          have := q3 i (by omega)
          rw [hi] at this
          rw [Addr.add_lit, Addr.add_lit] at this
          exact this
        have hlen' : (L.map fun y => F y.1).length = len := by simp [hLl]
        have := VRel.sl (st := stab AHeap.empty w) sz (L.map fun y => F y.1) .ro bb off cap _ hv hh (fun e he => by obtain ⟨y, _, rfl⟩ := List.mem_map.1 he; exact hF _) (by omega) hm trivial
        rw [hlen'] at this
        simpa [List.map_map, Function.comp_def] using this
inductive RdFsF (P : Program) (k : Nat) : List Field → Nat → Nat → {α : Type} → (α → List AV) → (α → Prop) → Prop
  | one {f : Field} {off n : Nat} {α : Type} {F : α → List AV} {Q : α → Prop} : f.offset = off → P.cellsOf f.type = n → RdF P f.type F Q k → RdFsF P k [f] off n F Q
  | cons {f : Field} {fs : List Field} {off n m : Nat} {α β : Type} {F : α → List AV} {Q : α → Prop} {G : β → List AV} {R : β → Prop} : f.offset = off → P.cellsOf f.type = n → RdF P f.type F Q k → RdFsF P k fs (off + n) m G R →
      RdFsF P k (f :: fs) off (n + m) (fun p : α × β => F p.1 ++ G p.2) (fun p => Q p.1 ∧ R p.2)
theorem RdFsF.read {k : Nat} {fs : List Field} {off n : Nat} {α : Type} {F : α → List AV} {Q : α → Prop} (h : RdFsF P k fs off n F Q) {H : Type} {enc : TypeId × Value → H} {w : World} {fuel : Nat} (hfk : fuel ≤ k) {cs : List Value}
    (hx : ∀ f ∈ fs, ∃ y, DataW.trod enc P w 0 (fun _ => true) true fuel f.type ((cs.drop f.offset).take (P.cellsOf f.type)) = some y) : ∃ a, Q a ∧ VRels (stab AHeap.empty w) (F a) ((cs.drop off).take n) := by
  induction h with
  | one h1 h2 h3 =>
    obtain ⟨y, hy⟩ := hx _ (List.mem_cons_self ..)
    rw [h1, h2] at hy
    exact h3 H enc w fuel hfk _ y hy
  | cons h1 h2 h3 h4 ih =>
    obtain ⟨y, hy⟩ := hx _ (List.mem_cons_self ..)
    rw [h1, h2] at hy
    obtain ⟨a, a1, a2⟩ := h3 H enc w fuel hfk _ y hy
    obtain ⟨b, b1, b2⟩ := ih fun f hf => hx f (List.mem_cons_of_mem _ hf)
    refine ⟨(a, b), ⟨a1, b1⟩, ?_⟩
    rw [List.take_add, List.drop_drop]
    exact a2.append b2
theorem RdF.struct {k : Nat} {fs : Array Field} {n : Nat} {α : Type} {F : α → List AV} {Q : α → Prop} (ht : P.underlying t = some (.struct fs)) (hfs : RdFsF P k fs.toList 0 n F Q) (hn : P.cellsOf t = n) : RdF P t F Q (k + 1) := fun H enc w fuel hfm cs x hx => by
  obtain ⟨xs, m, hfu, _, hl, hlen, hf⟩ := DataW.trod_struct ht hx
  obtain ⟨a, h1, h2⟩ := hfs.read (H := H) (enc := enc) (w := w) (fuel := m) (by omega) (cs := cs) (fun f hf' => by
    obtain ⟨i, hi⟩ := List.getElem?_of_mem hf'
    have hi' : fs[i]? = some f := by simpa using hi
    have hlt : i < fs.size := (Array.getElem?_eq_some_iff.1 hi').1
    have := hf i f hi'
    rw [List.getElem?_eq_getElem (by omega)] at this
    exact ⟨_, this⟩)
  rw [List.drop_zero, List.take_of_length_le (by omega)] at h2
  exact ⟨a, h1, h2⟩
end
end Go.Av
