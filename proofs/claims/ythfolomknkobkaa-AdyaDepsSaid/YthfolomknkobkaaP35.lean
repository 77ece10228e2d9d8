/-
  AdyaDeps answers true for every history
-/
import Derived.Test.YthfolomknkobkaaP25
import Derived.HandedShaped
set_option linter.unusedVariables false
namespace Go.Av
open Go.ChangeShapes
def light {H : Type} (P : Program) (t : TypeId) (d : DataW H) : Prop := ∀ x ∈ d.weights P t, x ≤ reachBytes
def RdW (P : Program) (t : TypeId) {α : Type} (F : α → List AV) (Q : α → Prop) : Prop :=
  ∀ (H : Type) (enc : TypeId × Value → H) (w : World) (fuel : Nat) (cs : List Value) (x : DataW H × List MemPlace),
    DataW.trod enc P w 0 (fun _ => true) true fuel t cs = some x → light P t x.1 → ∃ a, Q a ∧ VRels (stab AHeap.empty w) (F a) cs
section
variable {P : Program} {t e : TypeId}
theorem Rd.w {α : Type} {F : α → List AV} {Q : α → Prop} (h : Rd P t F Q) : RdW P t F Q := fun H enc w fuel cs x hx _ => h H enc w fuel cs x hx
theorem RdW.conv {α β : Type} {F : α → List AV} {Q : α → Prop} {G : β → List AV} {R : β → Prop} (h : RdW P t F Q) (g : α → β) (hg : ∀ a, Q a → R (g a) ∧ F a = G (g a)) : RdW P t G R :=
  fun H enc w fuel cs x hx hl => let ⟨a, h1, h2⟩ := h H enc w fuel cs x hx hl; ⟨g a, (hg a h1).1, (hg a h1).2 ▸ h2⟩
theorem RdW.str (ht : P.underlying t = some .string) : RdW P t (fun s : ByteArray => [.v (.string s)]) (fun s => s.size ≤ reachBytes) := fun H enc w fuel cs x hx hl => by
  obtain ⟨s, rfl, rfl, hs⟩ := DataW.trod_string ht hx
  refine ⟨s, ?_, .cons (.v _) .nil⟩
  have := hl s.data.toList.length (by simp [DataW.weights])
  simpa using this
theorem weightsAll_mem {H : Type} {e : TypeId} : ∀ {l : List (DataW H)} {d : DataW H}, d ∈ l → ∀ x ∈ d.weights P e, x ∈ DataW.weightsAll P e l
  | y :: l, d, hd, x, hx => by
    simp only [DataW.weightsAll, List.mem_append]
    rcases List.mem_cons.1 hd with rfl | h
    · exact .inl hx
    · exact .inr (weightsAll_mem h x hx)
theorem RdW.slice {α : Type} {F : α → List AV} {Q : α → Prop} {sz by' : Nat} (ht : P.underlying t = some (.slice e)) (he : RdW P e F Q) (hsz : P.cellsOf e = sz) (hby : P.bytesOf e = by') (hF : ∀ a, (F a).length = sz) (hpos : 0 < sz) :
    RdW P t (fun l : List α => [.sl sz (l.map F) .ro]) (fun l => l.length ≤ maxLen ∧ l.length * by' ≤ reachBytes ∧ ∀ a ∈ l, Q a) := fun H enc w fuel cs x hx hw => by
  rcases DataW.trod_slice ht hx with ⟨rfl, _⟩ | ⟨a, len, cap, elems, rest, n, _, rfl, rfl, hb, hl, hm, hlen, hel, hsp, _⟩
  · exact ⟨[], ⟨by simp, by simp, by simp⟩, .cons (.nil sz .ro none trivial) .nil⟩
  · obtain ⟨hrl, hr⟩ := hsp rfl
    obtain ⟨bb, off, spot⟩ := a
    have hwt : len * by' ≤ reachBytes := by
      have := hw ((elems.length + rest.length) * P.bytesOf e) (by simp [DataW.weights, ht])
      rw [hby] at this
      refine Nat.le_trans (Nat.mul_le_mul_right _ ?_) this
      omega
    have hlight : ∀ y ∈ elems, light P e y.1 := fun y hy z hz => hw z (by
      simp only [DataW.weights, ht, List.mem_cons, List.mem_append]
      exact .inr (.inl (weightsAll_mem (List.mem_map.2 ⟨y, hy, rfl⟩) z hz)))
    by_cases hc0 : cap = 0
    · subst hc0
      obtain rfl : len = 0 := by omega
      exact ⟨[], ⟨by simp, by simp, by simp⟩, .cons (.nil sz .ro _ trivial) .nil⟩
    · have hcell : ∃ ccs, w.cells? 0 ((⟨bb, off, spot⟩ : Addr).add (0 * P.cellsOf e)) (P.cellsOf e) = some ccs := by
        by_cases hl0 : 0 < len
        · have h0 := hel 0 hl0
          rw [List.getElem?_eq_getElem (by omega), Option.bind_eq_some_iff] at h0
          obtain ⟨ccs, h1, _⟩ := h0
          exact ⟨ccs, h1⟩
        · have h0 := hr 0 (by omega)
          rw [List.getElem?_eq_getElem (by omega), Option.bind_eq_some_iff, show len + 0 = 0 by omega] at h0
          obtain ⟨ccs, h1, _⟩ := h0
          exact ⟨ccs, h1⟩
      obtain ⟨ccs, hccs⟩ := hcell
      have hspot : spot = none := by
        obtain ⟨_, q2, q3⟩ := World.cells?_some hccs
        have := q3 0 (by omega)
        rw [List.getElem?_eq_getElem (by omega)] at this
        simpa [Addr.add] using World.cell?_spot this
      subst hspot
      obtain ⟨L, hLl, hL⟩ := exists_list (R := fun i (y : α × List Value) => Q y.1 ∧ VRels (stab AHeap.empty w) (F y.1) y.2 ∧ w.cells? 0 ((⟨bb, off, none⟩ : Addr).add (i * P.cellsOf e)) (P.cellsOf e) = some y.2) len (fun i hi => by
        have h0 := hel i hi
        have hil : i < elems.length := by omega
        rw [List.getElem?_eq_getElem hil, Option.bind_eq_some_iff] at h0
        obtain ⟨cc, h1, h2⟩ := h0
        obtain ⟨a, g1, g2⟩ := he H enc w _ _ _ h2 (hlight _ (List.getElem_mem hil))
        exact ⟨(a, cc), g1, g2, h1⟩)
      have hmem : ∀ y ∈ L, Q y.1 ∧ VRels (stab AHeap.empty w) (F y.1) y.2 := fun y hy => by
        obtain ⟨i, hi⟩ := List.getElem?_of_mem hy
        exact ⟨(hL i y hi).1, (hL i y hi).2.1⟩
      refine ⟨L.map (·.1), ⟨by simp only [List.length_map]; omega, by simp only [List.length_map, hLl]; exact hwt, fun a ha => ?_⟩, .cons ?_ .nil⟩
      · obtain ⟨y, hy, rfl⟩ := List.mem_map.1 ha
        exact (hmem y hy).1
      · have hv := VRels.flatten (F := F) fun y hy => (hmem y hy).2
        have hh : holdsAt (stab AHeap.empty w) bb off ((L.map (·.2)).flatten) := holdsAt_flatten (sz := sz) fun j y hy => by
          rw [List.getElem?_map, Option.map_eq_some_iff] at hy
          obtain ⟨z, hz, rfl⟩ := hy
          obtain ⟨_, _, h3⟩ := hL j z hz
          obtain ⟨_, q2, q3⟩ := World.cells?_some h3
          rw [hsz] at q2 q3
          refine ⟨q2, fun i u hi => ?_⟩
          have hlt := (List.getElem?_eq_some_iff.1 hi).1
          have := q3 i (by omega)
          rw [hi] at this
          rw [Addr.add_lit, Addr.add_lit] at this
          exact this
        have hlen' : (L.map fun y => F y.1).length = len := by simp [hLl]
        have := VRel.sl (st := stab AHeap.empty w) sz (L.map fun y => F y.1) .ro bb off cap _ hv hh (fun e he => by obtain ⟨y, _, rfl⟩ := List.mem_map.1 he; exact hF _) (by omega) hm trivial
        rw [hlen'] at this
        simpa [List.map_map, Function.comp_def] using this
inductive RdFsW (P : Program) : List Field → Nat → Nat → {α : Type} → (α → List AV) → (α → Prop) → Prop
  | one {f : Field} {off n : Nat} {α : Type} {F : α → List AV} {Q : α → Prop} : f.offset = off → P.cellsOf f.type = n → RdW P f.type F Q → RdFsW P [f] off n F Q
  | cons {f : Field} {fs : List Field} {off n m : Nat} {α β : Type} {F : α → List AV} {Q : α → Prop} {G : β → List AV} {R : β → Prop} : f.offset = off → P.cellsOf f.type = n → RdW P f.type F Q → RdFsW P fs (off + n) m G R →
      RdFsW P (f :: fs) off (n + m) (fun p : α × β => F p.1 ++ G p.2) (fun p => Q p.1 ∧ R p.2)
theorem RdFsW.read {fs : List Field} {off n : Nat} {α : Type} {F : α → List AV} {Q : α → Prop} (h : RdFsW P fs off n F Q) {H : Type} {enc : TypeId × Value → H} {w : World} {fuel : Nat} {cs : List Value}
    (hx : ∀ f ∈ fs, ∃ y, DataW.trod enc P w 0 (fun _ => true) true fuel f.type ((cs.drop f.offset).take (P.cellsOf f.type)) = some y ∧ light P f.type y.1) : ∃ a, Q a ∧ VRels (stab AHeap.empty w) (F a) ((cs.drop off).take n) := by
  induction h with
  | one h1 h2 h3 =>
    obtain ⟨y, hy, hl⟩ := hx _ (List.mem_cons_self ..)
    rw [h1, h2] at hy
    exact h3 H enc w fuel _ y hy hl
  | cons h1 h2 h3 h4 ih =>
    obtain ⟨y, hy, hl⟩ := hx _ (List.mem_cons_self ..)
    rw [h1, h2] at hy
    obtain ⟨a, a1, a2⟩ := h3 H enc w fuel _ y hy hl
    obtain ⟨b, b1, b2⟩ := ih fun f hf => hx f (List.mem_cons_of_mem _ hf)
    refine ⟨(a, b), ⟨a1, b1⟩, ?_⟩
    rw [List.take_add, List.drop_drop]
    exact a2.append b2
theorem weightsEach_mem {H : Type} : ∀ {ts : List TypeId} {ds : List (DataW H)} {i : Nat} {t : TypeId} {d : DataW H}, ts[i]? = some t → ds[i]? = some d → ∀ x ∈ d.weights P t, x ∈ DataW.weightsEach P ts ds
  | [], _, i, t, d, h, _, _, _ => by simp at h
  | _ :: _, [], i, t, d, _, h, _, _ => by simp at h
  | t :: ts, d :: ds, 0, _, _, h, h', x, hx => by simp at h h'; subst h; subst h'; simp only [DataW.weightsEach, List.mem_append]; exact .inl hx
  | t :: ts, d :: ds, i + 1, _, _, h, h', x, hx => by simp only [DataW.weightsEach, List.mem_append]; exact .inr (weightsEach_mem (by simpa using h) (by simpa using h') x hx)
theorem RdW.struct {fs : Array Field} {n : Nat} {α : Type} {F : α → List AV} {Q : α → Prop} (ht : P.underlying t = some (.struct fs)) (hfs : RdFsW P fs.toList 0 n F Q) (hn : P.cellsOf t = n) : RdW P t F Q := fun H enc w fuel cs x hx hw => by
  obtain ⟨xs, m, _, rfl, hl, hlen, hf⟩ := DataW.trod_struct ht hx
  obtain ⟨a, h1, h2⟩ := hfs.read (H := H) (enc := enc) (w := w) (fuel := m) (cs := cs) (fun f hf' => by
    obtain ⟨i, hi⟩ := List.getElem?_of_mem hf'
    have hi' : fs[i]? = some f := by simpa using hi
    have hlt : i < fs.size := (Array.getElem?_eq_some_iff.1 hi').1
    have := hf i f hi'
    rw [List.getElem?_eq_getElem (by omega)] at this
    refine ⟨_, this, fun z hz => hw z ?_⟩
    simp only [DataW.weights, ht]
    exact weightsEach_mem (i := i) (t := f.type) (by simp [hi]) (by rw [List.getElem?_map, List.getElem?_eq_getElem (by omega)]; rfl) z hz)
  rw [List.drop_zero, List.take_of_length_le (by omega)] at h2
  exact ⟨a, h1, h2⟩
variable {H : Type} {enc : TypeId × Value → H} {W : World} {base : Nat} {v : Value} {d : DataW H} {p : List MemPlace}
theorem argW_one {α : Type} {x : α → AV} {Q : α → Prop} (hc : v.cells = #[v]) (hr : RdW P t (fun a => [x a]) Q) (hw : light P t d) (h0 : DataW.Trod enc P W 0 (fun _ => true) true t v d p) : ∃ a, Q a ∧ VRel (stab AHeap.empty W) (x a) v := by
  obtain ⟨fuel, hf⟩ := h0
  rw [hc] at hf
  obtain ⟨a, h1, h2⟩ := hr H enc W fuel _ _ hf hw
  cases h2 with | cons h3 _ => exact ⟨a, h1, h3⟩
theorem light_of_each {ts : List TypeId} {ds : List (DataW H)} (h : (DataW.weightsEach P ts ds).all (· ≤ reachBytes) = true) {i : Nat} {t : TypeId} {d : DataW H} (ht : ts[i]? = some t) (hd : ds[i]? = some d) : light P t d := fun x hx => by
  have := List.all_eq_true.1 h x (weightsEach_mem ht hd x hx)
  simpa using this
end
end Go.Av
