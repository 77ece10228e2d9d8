/-
  AdyaDeps answers true for every history
-/
import Derived.Test.YthfolomknkobkaaP17
import Derived.WalkKit
import Derived.ProofKit
import Derived.OpenShut
import Derived.Carry
set_option linter.unusedVariables false
namespace Go.Av
open Go.ChangeShapes
def Rd (P : Program) (t : TypeId) {α : Type} (F : α → List AV) (Q : α → Prop) : Prop :=
  ∀ (H : Type) (enc : TypeId × Value → H) (w : World) (fuel : Nat) (cs : List Value) (x : DataW H × List MemPlace),
    DataW.trod enc P w 0 (fun _ => true) true fuel t cs = some x → ∃ a, Q a ∧ VRels (stab AHeap.empty w) (F a) cs
section
variable {P : Program} {t e : TypeId}
theorem Rd.conv {α β : Type} {F : α → List AV} {Q : α → Prop} {G : β → List AV} {R : β → Prop} (h : Rd P t F Q) (g : α → β) (hg : ∀ a, Q a → R (g a) ∧ F a = G (g a)) : Rd P t G R :=
  fun H enc w fuel cs x hx => let ⟨a, h1, h2⟩ := h H enc w fuel cs x hx; ⟨g a, (hg a h1).1, (hg a h1).2 ▸ h2⟩
theorem Rd.u64 (ht : P.underlying t = some (.int .u64)) : Rd P t (fun x : UInt64 => [Av.u64 x]) (fun _ => True) := fun H enc w fuel cs x hx => by
  obtain ⟨n, rfl, _, hw⟩ := DataW.trod_int ht hx
  have hb := bounds_u64 hw
  refine ⟨UInt64.ofNat n.toNat, trivial, ?_⟩
  have : (((UInt64.ofNat n.toNat).toNat : Nat) : Int) = n := by
    rw [UInt64.toNat_ofNat_of_lt' (by simp only [UInt64.size]; omega)]; omega
  show VRels _ [.v (.int .u64 _)] _
  rw [this]
  exact .cons (.v _) .nil
theorem Rd.u8 (ht : P.underlying t = some (.int .u8)) : Rd P t byteCell (fun _ => True) := fun H enc w fuel cs x hx => by
  obtain ⟨n, rfl, _, hw⟩ := DataW.trod_int ht hx
  have hb := bounds_u8 hw
  refine ⟨UInt8.ofNat n.toNat, trivial, ?_⟩
  have : (((UInt8.ofNat n.toNat).toNat : Nat) : Int) = n := by
    rw [UInt8.toNat_ofNat_of_lt' (by simp only [UInt8.size]; omega)]; omega
  show VRels _ [.v (.int .u8 _)] _
  rw [this]
  exact .cons (.v _) .nil
theorem Rd.i64 (ht : P.underlying t = some (.int .i64)) : Rd P t (fun n : Int => [Av.i64 n]) (fun n => -9223372036854775808 ≤ n ∧ n ≤ 9223372036854775807) := fun H enc w fuel cs x hx => by
  obtain ⟨n, rfl, _, hw⟩ := DataW.trod_int ht hx
  exact ⟨n, bounds_i64 hw, .cons (.v _) .nil⟩
theorem Rd.bool (ht : P.underlying t = some .bool) : Rd P t (fun b : Bool => [Av.bl b]) (fun _ => True) := fun H enc w fuel cs x hx => by
  cases fuel with
  | zero => simp [DataW.trod] at hx
  | succ n =>
    unfold DataW.trod at hx
    rw [ht] at hx
    split at hx <;> first | exact ⟨_, trivial, .cons (.v _) .nil⟩ | (exfalso; simp_all; done) | cases hx
theorem Rd.str (ht : P.underlying t = some .string) : Rd P t (fun s : ByteArray => [.v (.string s)]) (fun s => s.size ≤ maxLen) := fun H enc w fuel cs x hx => by
  cases fuel with
  | zero => simp [DataW.trod] at hx
  | succ n =>
    unfold DataW.trod at hx
    rw [ht] at hx
    split at hx
    all_goals first
      | (split at hx
         · next hs => exact ⟨_, hs, .cons (.v _) .nil⟩
         · cases hx)
      | (exfalso; simp_all; done)
      | cases hx
theorem exists_list {α : Type} {R : Nat → α → Prop} : ∀ (n : Nat), (∀ i, i < n → ∃ y, R i y) → ∃ l : List α, l.length = n ∧ ∀ i y, l[i]? = some y → R i y
  | 0, _ => ⟨[], rfl, fun i y h => by simp at h⟩
  | n + 1, h => by
    obtain ⟨l, hl, hr⟩ := exists_list n fun i hi => h i (by omega)
    obtain ⟨y, hy⟩ := h n (by omega)
    refine ⟨l ++ [y], by simp [hl], fun i z hz => ?_⟩
    rcases Nat.lt_trichotomy i n with hlt | rfl | hgt
    · rw [List.getElem?_append_left (by omega)] at hz; exact hr i z hz
    · rw [List.getElem?_append_right (by omega)] at hz
      simp [hl] at hz; subst hz; exact hy
    · rw [List.getElem?_eq_none (by simp [hl]; omega)] at hz; cases hz
theorem holdsAt_flatten {st : Store} {b sz : Nat} : ∀ {L : List (List Value)} {off : Nat}, (∀ j y, L[j]? = some y → y.length = sz ∧ holdsAt st b (off + j * sz) y) → holdsAt st b off L.flatten
  | [], off, _ => fun i u hi => by simp at hi
  | y :: L, off, h => fun i u hi => by
    obtain ⟨h1, h2⟩ := h 0 y rfl
    simp only [Nat.zero_mul, Nat.add_zero] at h2
    rw [List.flatten_cons] at hi
    by_cases hlt : i < y.length
    · rw [List.getElem?_append_left hlt] at hi; exact h2 i u hi
    · rw [List.getElem?_append_right (by omega)] at hi
      have := holdsAt_flatten (L := L) (off := off + sz) (fun j z hz => by
        obtain ⟨g1, g2⟩ := h (j + 1) z (by simpa using hz)
        refine ⟨g1, ?_⟩
        rw [show off + sz + j * sz = off + (j + 1) * sz by rw [Nat.add_mul]; omega]
        exact g2) _ _ hi
      rw [show off + i = off + sz + (i - y.length) by omega]
      exact this
theorem VRels.flatten {α : Type} {st : Store} {F : α → List AV} : ∀ {L : List (α × List Value)}, (∀ y ∈ L, VRels st (F y.1) y.2) → VRels st ((L.map fun y => F y.1).flatten) ((L.map (·.2)).flatten)
  | [], _ => .nil
  | y :: L, h => by
    simp only [List.map_cons, List.flatten_cons]
    exact (h y (List.mem_cons_self ..)).append (VRels.flatten fun z hz => h z (List.mem_cons_of_mem _ hz))
theorem Rd.slice {α : Type} {F : α → List AV} {Q : α → Prop} {sz : Nat} (ht : P.underlying t = some (.slice e)) (he : Rd P e F Q) (hsz : P.cellsOf e = sz) (hF : ∀ a, (F a).length = sz) (hpos : 0 < sz) :
    Rd P t (fun l : List α => [.sl sz (l.map F) .ro]) (fun l => l.length ≤ maxLen ∧ ∀ a ∈ l, Q a) := fun H enc w fuel cs x hx => by
  rcases DataW.trod_slice ht hx with ⟨rfl, _⟩ | ⟨a, len, cap, elems, rest, n, _, rfl, _, hb, hl, hm, hlen, hel, hsp, _⟩
  · exact ⟨[], ⟨by simp, by simp⟩, .cons (.nil sz .ro none trivial) .nil⟩
  · obtain ⟨hrl, hr⟩ := hsp rfl
    obtain ⟨bb, off, spot⟩ := a
    by_cases hc0 : cap = 0
    · subst hc0
      obtain rfl : len = 0 := by omega
      exact ⟨[], ⟨by simp, by simp⟩, .cons (.nil sz .ro _ trivial) .nil⟩
    · have hcell : ∃ ccs, w.cells? 0 ((⟨bb, off, spot⟩ : Addr).add (0 * P.cellsOf e)) (P.cellsOf e) = some ccs := by
        by_cases hl0 : 0 < len
        · have h0 := hel 0 hl0
          rw [List.getElem?_eq_getElem (by omega), Option.bind_eq_some_iff] at h0
          obtain ⟨ccs, h1, _⟩ := h0
          exact ⟨ccs, h1⟩
        · have h0 := hr 0 (by omega)
          rw [List.getElem?_eq_getElem (by omega), Option.bind_eq_some_iff, show len + 0 = 0 by omega] at h0
          obtain ⟨ccs, h1, _⟩ := h0
          exact ⟨ccs, h1⟩
      obtain ⟨ccs, hccs⟩ := hcell
      have hspot : spot = none := by
        obtain ⟨_, q2, q3⟩ := World.cells?_some hccs
        have := q3 0 (by omega)
        rw [List.getElem?_eq_getElem (by omega)] at this
        simpa [Addr.add] using World.cell?_spot this
      subst hspot
      obtain ⟨L, hLl, hL⟩ := exists_list (R := fun i (y : α × List Value) => Q y.1 ∧ VRels (stab AHeap.empty w) (F y.1) y.2 ∧ w.cells? 0 ((⟨bb, off, none⟩ : Addr).add (i * P.cellsOf e)) (P.cellsOf e) = some y.2) len (fun i hi => by
        have h0 := hel i hi
        rw [List.getElem?_eq_getElem (by omega), Option.bind_eq_some_iff] at h0
        obtain ⟨cc, h1, h2⟩ := h0
        obtain ⟨a, g1, g2⟩ := he H enc w _ _ _ h2
        exact ⟨(a, cc), g1, g2, h1⟩)
      have hmem : ∀ y ∈ L, Q y.1 ∧ VRels (stab AHeap.empty w) (F y.1) y.2 := fun y hy => by
        obtain ⟨i, hi⟩ := List.getElem?_of_mem hy
        exact ⟨(hL i y hi).1, (hL i y hi).2.1⟩
      refine ⟨L.map (·.1), ⟨by simp only [List.length_map]; omega, fun a ha => ?_⟩, .cons ?_ .nil⟩
      · obtain ⟨y, hy, rfl⟩ := List.mem_map.1 ha
        exact (hmem y hy).1
      · have hv := VRels.flatten (F := F) fun y hy => (hmem y hy).2
        have hh : holdsAt (stab AHeap.empty w) bb off ((L.map (·.2)).flatten) := holdsAt_flatten (sz := sz) fun j y hy => by
          rw [List.getElem?_map, Option.map_eq_some_iff] at hy
          obtain ⟨z, hz, rfl⟩ := hy
          obtain ⟨_, _, h3⟩ := hL j z hz
          obtain ⟨_, q2, q3⟩ := World.cells?_some h3
          rw [hsz] at q2 q3
          refine ⟨q2, fun i u hi => ?_⟩
          have hlt := (List.getElem?_eq_some_iff.1 hi).1
          have := q3 i (by omega)
          rw [hi] at this
          rw [Addr.add_lit, Addr.add_lit] at this
          exact this
        have hlen' : (L.map fun y => F y.1).length = len := by simp [hLl]
        have := VRel.sl (st := stab AHeap.empty w) sz (L.map fun y => F y.1) .ro bb off cap _ hv hh (fun e he => by obtain ⟨y, _, rfl⟩ := List.mem_map.1 he; exact hF _) (by omega) hm trivial
        rw [hlen'] at this
        simpa [List.map_map, Function.comp_def] using this
inductive RdFs (P : Program) : List Field → Nat → Nat → {α : Type} → (α → List AV) → (α → Prop) → Prop
  | one {f : Field} {off n : Nat} {α : Type} {F : α → List AV} {Q : α → Prop} : f.offset = off → P.cellsOf f.type = n → Rd P f.type F Q → RdFs P [f] off n F Q
  | cons {f : Field} {fs : List Field} {off n m : Nat} {α β : Type} {F : α → List AV} {Q : α → Prop} {G : β → List AV} {R : β → Prop} : f.offset = off → P.cellsOf f.type = n → Rd P f.type F Q → RdFs P fs (off + n) m G R →
      RdFs P (f :: fs) off (n + m) (fun p : α × β => F p.1 ++ G p.2) (fun p => Q p.1 ∧ R p.2)
theorem RdFs.read {fs : List Field} {off n : Nat} {α : Type} {F : α → List AV} {Q : α → Prop} (h : RdFs P fs off n F Q) {H : Type} {enc : TypeId × Value → H} {w : World} {fuel : Nat} {cs : List Value}
    (hx : ∀ f ∈ fs, ∃ y, DataW.trod enc P w 0 (fun _ => true) true fuel f.type ((cs.drop f.offset).take (P.cellsOf f.type)) = some y) : ∃ a, Q a ∧ VRels (stab AHeap.empty w) (F a) ((cs.drop off).take n) := by
  induction h with
  | one h1 h2 h3 =>
    obtain ⟨y, hy⟩ := hx _ (List.mem_cons_self ..)
    rw [h1, h2] at hy
    exact h3 H enc w fuel _ y hy
  | cons h1 h2 h3 h4 ih =>
    obtain ⟨y, hy⟩ := hx _ (List.mem_cons_self ..)
    rw [h1, h2] at hy
    obtain ⟨a, a1, a2⟩ := h3 H enc w fuel _ y hy
    obtain ⟨b, b1, b2⟩ := ih fun f hf => hx f (List.mem_cons_of_mem _ hf)
    refine ⟨(a, b), ⟨a1, b1⟩, ?_⟩
    rw [List.take_add, List.drop_drop]
    exact a2.append b2
theorem Rd.struct {fs : Array Field} {n : Nat} {α : Type} {F : α → List AV} {Q : α → Prop} (ht : P.underlying t = some (.struct fs)) (hfs : RdFs P fs.toList 0 n F Q) (hn : P.cellsOf t = n) : Rd P t F Q := fun H enc w fuel cs x hx => by
  obtain ⟨xs, m, _, _, hl, hlen, hf⟩ := DataW.trod_struct ht hx
  obtain ⟨a, h1, h2⟩ := hfs.read (H := H) (enc := enc) (w := w) (fuel := m) (cs := cs) (fun f hf' => by
    obtain ⟨i, hi⟩ := List.getElem?_of_mem hf'
    have hi' : fs[i]? = some f := by simpa using hi
    have hlt : i < fs.size := (Array.getElem?_eq_some_iff.1 hi').1
    have := hf i f hi'
    rw [List.getElem?_eq_getElem (by omega)] at this
    exact ⟨_, this⟩)
  rw [List.drop_zero, List.take_of_length_le (by omega)] at h2
  exact ⟨a, h1, h2⟩
variable {H : Type} {enc : TypeId × Value → H} {W : World} {base : Nat} {v : Value} {d : DataW H} {p : List MemPlace}
theorem cells_slice (ht : P.underlying t = some (.slice e)) (hval : Value.okWide P W .any base t v) : v.cells = #[v] := by
  simp only [Value.okWide, ht, Cell.okWide, Cell.ok] at hval
  split at hval <;> simp_all [Value.cells]
end
theorem trodAll_below {H : Type} {enc : TypeId × Value → H} {P : Program} (hl : laidOutB P = true) {W W' : World} (hb : RowKit.Below W.heap.size W W') :
    ∀ {ts : List TypeId} {vs : List Value} {ds : List (DataW H)} {ps : List MemPlace}, DataW.TrodAll enc P W 0 (fun _ => true) true ts vs ds ps → (∀ t ∈ ts, P.readableRec t = true ∧ t < P.types.size) → (∀ x ∈ ps, x.block < W.heap.size) →
      DataW.TrodAll enc P W' 0 (fun b => decide (b < W.heap.size)) true ts vs ds ps
  | [], vs, ds, ps, h, _, _ => by
    obtain ⟨rfl, rfl, rfl⟩ := trodAll_nil h
    exact trodAll_mk0
  | t :: ts, vs, ds, ps, h, hr, hlt => by
    obtain ⟨v, vs', d, ds', p, q, rfl, rfl, rfl, h0, r0⟩ := trodAll_cons h
    obtain ⟨r1, r2⟩ := hr t (List.mem_cons_self ..)
    exact trodAll_cons_mk (RowKit.Below.trod hl r1 r2 h0 hb fun x hx => hlt x (List.mem_append_left _ hx))
      (trodAll_below hl hb r0 (fun t ht => hr t (List.mem_cons_of_mem _ ht)) fun x hx => hlt x (List.mem_append_right _ hx))
theorem Evol.below {W W' : World} {h' : AHeap} (ev : Evol AHeap.empty W h' W') : RowKit.Below W.heap.size W W' :=
  ⟨ev.os, ev.tape, ev.output, ev.size, fun k hk => (ev.free k hk rfl).2⟩
theorem said_true {H : Type} {enc : TypeId × Value → H} {P : Program} {f : Func} {id : FuncId} {s : ChangeSpec} {W : World} {args : Array Value} {ds gs : List (DataW H)} {before : List MemPlace} {as : List AV} {tb : TypeId}
    (hl : laidOutB P = true) (hs : s.vars = []) (hr : f.resultTypes = #[tb]) (htb : P.underlying tb = some .bool) (hp : ∀ t ∈ f.params.toList, P.readableRec t = true ∧ t < P.types.size)
    (hfn : s.fn H ds = { results := [.lit (.bool true)], args := ds }) (hW : DataW.Whole enc P f.params.toList s.vars false W args.toList ds gs before)
    (hargs : VRels (stab AHeap.empty W) as args.toList) (hcall : ACalls P id as AHeap.empty (fun x h' => x = bl true ∧ h' = AHeap.empty)) :
    Calls P id args W fun e W' => ∃ v, e = .returned v ∧ s.post enc P f false true false false W args v W' := by
  have hc := hcall args.toList W hargs (fun b o hb => by cases hb)
  simp only [Array.toArray_toList] at hc
  refine hc.mono fun e W' ⟨u, x, h', he, ⟨hx, hh⟩, hv, _, hev⟩ => ?_
  subst hx
  cases hv
  refine ⟨_, he, ?_⟩
  have hb := hev.below
  have hlt := hW.lt
  have hW' := hW
  obtain ⟨pa, pv, hA, hV, rfl, _, _⟩ := hW
  rw [hs] at hV
  obtain ⟨rfl, rfl⟩ := trodVars_none hV
  refine ⟨ds, [], _, [], pa, [], hW', ?_, ?_, ?_, hb.frame _, fun h => by cases h⟩
  · rw [List.append_nil, hfn, hr]
    exact trodAll_cons_mk (RowKit.shut_bool htb true) trodAll_mk0
  · rw [List.append_nil, hfn]
    exact trodAll_below hl hb hA hp fun x hx => hlt x (List.mem_append_left _ hx)
  · rw [hs, List.append_nil, hfn]; rfl
end Go.Av
