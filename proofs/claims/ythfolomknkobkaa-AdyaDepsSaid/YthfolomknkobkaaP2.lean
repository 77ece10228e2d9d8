/-
  AdyaDeps answers true for every history
-/
import Derived.WalkKit
import Derived.Deep.Quiet
import Derived.Laws.AppendOwn
import Derived.Below
set_option linter.unusedVariables false
namespace Go.Av
inductive Cap where
  | ro | full | tok (b used size : Nat)
  deriving DecidableEq, Inhabited
inductive AV where
  | any
  | v (x : Value)
  | sl (sz : Nat) (es : List (List AV)) (c : Cap)
  | rp (cs : List AV)
  | ag (cs : List AV)
  | tu (cs : List AV)
  | fn (f : Fn) (first captured : List AV)
  deriving Inhabited
abbrev Store := Addr → Option Value
def Cap.ok (b off len cap sz : Nat) : Cap → Prop
  | .ro => True
  | .full => cap = len
  | .tok b' used size => b' = b ∧ off + len * sz = used ∧ off + cap * sz ≤ size
def Cap.plain : Cap → Prop
  | .tok _ _ _ => False
  | _ => True
def holdsAt (st : Store) (b off : Nat) (vs : List Value) : Prop := ∀ i u, vs[i]? = some u → st ⟨b, off + i, none⟩ = some u
mutual
inductive VRel (st : Store) : AV → Value → Prop
  | any (u : Value) : VRel st .any u
  | v (x : Value) : VRel st (.v x) x
  | sl (sz : Nat) (es : List (List AV)) (c : Cap) (b off cap : Nat) (vs : List Value) : VRels st es.flatten vs → holdsAt st b off vs → (∀ e ∈ es, e.length = sz) → es.length ≤ cap → cap ≤ maxLen →
      c.ok b off es.length cap sz → VRel st (.sl sz es c) (.slice (some ⟨b, off, none⟩) es.length cap)
  | nil (sz : Nat) (c : Cap) (a : Option Addr) : c.plain → VRel st (.sl sz [] c) (.slice a 0 0)
  | rp (cs : List AV) (b off : Nat) (vs : List Value) : VRels st cs vs → holdsAt st b off vs → VRel st (.rp cs) (.pointer (some ⟨b, off, none⟩))
  | ag (cs : List AV) (vs : Array Value) : VRels st cs vs.toList → VRel st (.ag cs) (.agg vs)
  | tu (cs : List AV) (vs : Array Value) : VRels st cs vs.toList → VRel st (.tu cs) (.tuple vs)
  | fn (f : Fn) (as bs : List AV) (us vs : Array Value) : VRels st as us.toList → VRels st bs vs.toList → VRel st (.fn f as bs) (.func f us vs)
inductive VRels (st : Store) : List AV → List Value → Prop
  | nil : VRels st [] []
  | cons {a : AV} {u : Value} {as : List AV} {us : List Value} : VRel st a u → VRels st as us → VRels st (a :: as) (u :: us)
end
def AV.one : AV → Bool
  | .v x => x.oneCell'
  | .sl _ _ _ => true
  | .rp _ => true
  | .fn _ _ _ => true
  | _ => false
def AV.cells : AV → List AV
  | .ag cs => cs
  | x => [x]
def Store.le (st st' : Store) : Prop := ∀ a u, st a = some u → st' a = some u
theorem Store.le.refl (st : Store) : st.le st := fun _ _ h => h
theorem Store.le.trans {a b c : Store} (h : a.le b) (h' : b.le c) : a.le c := fun x u hx => h' _ _ (h _ _ hx)
theorem holdsAt.mono {st st' : Store} (hle : st.le st') {b off : Nat} {vs : List Value} (h : holdsAt st b off vs) : holdsAt st' b off vs :=
  fun i u hi => hle _ _ (h i u hi)
mutual
theorem VRel.mono {st st' : Store} (hle : st.le st') {a : AV} {u : Value} : VRel st a u → VRel st' a u
  | .any u => .any u
  | .v x => .v x
  | .sl sz es c b off cap vs h1 h2 h3 h4 h5 h6 => .sl sz es c b off cap vs (VRels.mono hle h1) (h2.mono hle) h3 h4 h5 h6
  | .nil sz c a h => .nil sz c a h
  | .rp cs b off vs h1 h2 => .rp cs b off vs (VRels.mono hle h1) (h2.mono hle)
  | .ag cs vs h => .ag cs vs (VRels.mono hle h)
  | .tu cs vs h => .tu cs vs (VRels.mono hle h)
  | .fn f as bs us vs h1 h2 => .fn f as bs us vs (VRels.mono hle h1) (VRels.mono hle h2)
theorem VRels.mono {st st' : Store} (hle : st.le st') {as : List AV} {us : List Value} : VRels st as us → VRels st' as us
  | .nil => .nil
  | .cons h1 h2 => .cons (VRel.mono hle h1) (VRels.mono hle h2)
end
theorem VRels.length {st : Store} : ∀ {as : List AV} {us : List Value}, VRels st as us → as.length = us.length
  | _, _, .nil => rfl
  | _, _, .cons _ h => by simp [VRels.length h]
theorem VRels.get {st : Store} : ∀ {as : List AV} {us : List Value}, VRels st as us → ∀ {i : Nat} {a : AV}, as[i]? = some a → ∃ u, us[i]? = some u ∧ VRel st a u
  | _, _, .nil, i, a, h => by simp at h
  | _, _, .cons (u := u) h1 h2, 0, a, h => by simp at h; subst h; exact ⟨u, rfl, h1⟩
  | _, _, .cons h1 h2, i + 1, a, h => by simp at h; simpa using VRels.get h2 h
theorem VRels.get' {st : Store} : ∀ {as : List AV} {us : List Value}, VRels st as us → ∀ {i : Nat} {u : Value}, us[i]? = some u → ∃ a, as[i]? = some a ∧ VRel st a u
  | _, _, .nil, i, a, h => by simp at h
  | _, _, .cons (a := a) h1 h2, 0, u, h => by simp at h; subst h; exact ⟨a, rfl, h1⟩
  | _, _, .cons h1 h2, i + 1, a, h => by simp at h; simpa using VRels.get' h2 h
theorem VRels.append {st : Store} : ∀ {as bs : List AV} {us vs : List Value}, VRels st as us → VRels st bs vs → VRels st (as ++ bs) (us ++ vs)
  | _, _, _, _, .nil, h => h
  | _, _, _, _, .cons h1 h2, h => .cons h1 (VRels.append h2 h)
theorem VRels.take {st : Store} : ∀ {as : List AV} {us : List Value}, VRels st as us → ∀ n, VRels st (as.take n) (us.take n)
  | _, _, .nil, n => by simpa using .nil
  | _, _, .cons h1 h2, 0 => by simpa using .nil
  | _, _, .cons h1 h2, n + 1 => .cons h1 (VRels.take h2 n)
theorem VRels.drop {st : Store} : ∀ {as : List AV} {us : List Value}, VRels st as us → ∀ n, VRels st (as.drop n) (us.drop n)
  | _, _, .nil, n => by simpa using .nil
  | _, _, .cons h1 h2, 0 => .cons h1 h2
  | _, _, .cons h1 h2, n + 1 => VRels.drop h2 n
theorem VRels.set {st : Store} : ∀ {as : List AV} {us : List Value}, VRels st as us → ∀ (i : Nat) {a : AV} {u : Value}, VRel st a u → VRels st (as.set i a) (us.set i u)
  | _, _, .nil, i, _, _, _ => by simpa using .nil
  | _, _, .cons h1 h2, 0, _, _, h => .cons h h2
  | _, _, .cons h1 h2, i + 1, _, _, h => .cons h1 (VRels.set h2 i h)
theorem holdsAt.drop {st : Store} {b off : Nat} {vs : List Value} (h : holdsAt st b off vs) (n : Nat) : holdsAt st b (off + n) (vs.drop n) := by
  intro i u hi
  rw [List.getElem?_drop] at hi
  have := h _ _ hi
  rwa [← Nat.add_assoc] at this
theorem holdsAt.take {st : Store} {b off : Nat} {vs : List Value} (h : holdsAt st b off vs) (n : Nat) : holdsAt st b off (vs.take n) := by
  intro i u hi
  rw [List.getElem?_take] at hi
  split at hi
  · exact h _ _ hi
  · cases hi
theorem flatten_length {sz : Nat} : ∀ (es : List (List AV)), (∀ e ∈ es, e.length = sz) → es.flatten.length = es.length * sz
  | [], _ => by simp
  | e :: es, h => by
    have h1 := h e (by simp)
    have h2 := flatten_length es (fun e he => h e (by simp [he]))
    simp [h1, h2, Nat.add_mul, Nat.add_comm]
theorem flatten_drop {sz : Nat} : ∀ (es : List (List AV)) (i : Nat), (∀ e ∈ es, e.length = sz) → es.flatten.drop (i * sz) = (es.drop i).flatten
  | [], i, _ => by simp
  | e :: es, 0, _ => by simp
  | e :: es, i + 1, h => by
    have h1 := h e (by simp)
    have h2 := flatten_drop es i (fun e he => h e (by simp [he]))
    simp only [List.flatten_cons, List.drop_succ_cons]
    rw [Nat.add_mul, Nat.one_mul, Nat.add_comm, ← h1, ← List.drop_drop, List.drop_left, h1, h2]
theorem flatten_take {sz : Nat} : ∀ (es : List (List AV)) (i : Nat), (∀ e ∈ es, e.length = sz) → es.flatten.take (i * sz) = (es.take i).flatten
  | [], i, _ => by simp
  | e :: es, 0, _ => by simp
  | e :: es, i + 1, h => by
    have h1 := h e (by simp)
    have h2 := flatten_take es i (fun e he => h e (by simp [he]))
    simp only [List.flatten_cons, List.take_succ_cons]
    rw [Nat.add_mul, Nat.one_mul, Nat.add_comm, ← h1, List.take_length_add_append, h1, h2]
theorem flatten_elem {sz : Nat} {es : List (List AV)} {i : Nat} {e : List AV} (h : ∀ e ∈ es, e.length = sz) (hi : es[i]? = some e) : (es.flatten.drop (i * sz)).take sz = e := by
  rw [flatten_drop es i h]
  have hlt : i < es.length := by
    rcases Nat.lt_or_ge i es.length with h' | h'
    · exact h'
    · simp [List.getElem?_eq_none h'] at hi
  rw [List.drop_eq_getElem_cons hlt]
  have he : es[i] = e := by simpa [hlt] using hi
  have hl : e.length = sz := h e (he ▸ List.getElem_mem hlt)
  rw [he, List.flatten_cons, ← hl, List.take_left]
structure ALoop where
  E : Nat → Option AV
  n : Nat
  ps : Array Tmp
  assign : Code
  body : Code
  state : LoopState
  pending : Option Code
inductive ABlk where
  | box (cs : List AV)
  | grow (used size : Nat)
  | map (ents : List (Value × AV))
  | loop (r : ALoop)
  | row (cs : List AV)
  | keep (o : Obj)
  deriving Inhabited
abbrev AHeap := Nat → Option ABlk
def AHeap.set (h : AHeap) (b : Nat) (o : ABlk) : AHeap := fun x => if x = b then some o else h x
def AHeap.del (h : AHeap) (b : Nat) : AHeap := fun x => if x = b then none else h x
def AHeap.empty : AHeap := fun _ => none
@[simp] theorem AHeap.set_same (h : AHeap) (b : Nat) (o : ABlk) : h.set b o b = some o := by simp [AHeap.set]
theorem AHeap.set_other (h : AHeap) {b c : Nat} (o : ABlk) (hne : c ≠ b) : h.set b o c = h c := by simp [AHeap.set, hne]
@[simp] theorem AHeap.del_same (h : AHeap) (b : Nat) : h.del b b = none := by simp [AHeap.del]
theorem AHeap.del_other (h : AHeap) {b c : Nat} (hne : c ≠ b) : h.del b c = h c := by simp [AHeap.del, hne]
theorem AHeap.set_set (h : AHeap) (b : Nat) (o o' : ABlk) : (h.set b o).set b o' = h.set b o' := by funext x; simp only [AHeap.set]; split <;> rfl
theorem AHeap.del_set (h : AHeap) (b : Nat) (o : ABlk) (hb : h b = none) : (h.set b o).del b = h := by funext x; simp only [AHeap.set, AHeap.del]; split <;> simp_all
theorem AHeap.set_comm (h : AHeap) {b c : Nat} (o o' : ABlk) (hne : b ≠ c) : (h.set b o).set c o' = (h.set c o').set b o := by
  funext x; simp only [AHeap.set]; split <;> split <;> simp_all
def stab (h : AHeap) (w : World) : Store := fun a =>
  match h a.block with
  | none => w.cell? a
  | some (.grow n _) => if a.off < n then w.cell? a else none
  | some _ => none
def BRel (st : Store) : ABlk → Obj → Prop
  | .box cs, x => ∃ c t, x = .cells c t (0, 0) ∧ VRels st cs c.toList
  | .grow used size, x => ∃ c t, x = .cells c t (0, 0) ∧ c.size = size ∧ used ≤ size
  | .map ents, x => ∃ es clock, x = .map es clock ∧ es.toList.map (·.key) = ents.map (·.1) ∧ VRels st (ents.map (·.2)) (es.toList.map (·.val)) ∧ (es.toList.map (·.born)).Nodup ∧ ∀ e ∈ es.toList, e.born < clock
  | .row cs, x => ∃ c t f, x = .cells c t f ∧ c.size ≤ f.1 ∧ VRels st cs c.toList
  | .keep o, x => x = o
  | .loop r, x => ∃ fn tmps ds, x = .loop { state := r.state, pending := r.pending, fn, tmps, params := r.ps, assign := r.assign, body := r.body, defers := ds } ∧ tmps.size = r.n ∧ ∀ t y, r.E t = some y → ∃ u, tmps[t]? = some u ∧ VRel st y u
theorem BRel.mono {st st' : Store} (hle : st.le st') {o : ABlk} {x : Obj} (h : BRel st o x) : BRel st' o x := by
  cases o with
  | box cs => obtain ⟨c, t, rfl, hv⟩ := h; exact ⟨c, t, rfl, hv.mono hle⟩
  | grow u s => exact h
  | map ents => obtain ⟨es, clock, rfl, h1, h2, h3⟩ := h; exact ⟨es, clock, rfl, h1, h2.mono hle, h3⟩
  | row cs => obtain ⟨c, t, f, rfl, hf, hv⟩ := h; exact ⟨c, t, f, rfl, hf, hv.mono hle⟩
  | keep o => exact h
  | loop r => obtain ⟨fn, tmps, ds, rfl, h1, h2⟩ := h; exact ⟨fn, tmps, ds, rfl, h1, fun t y hy => let ⟨u, g1, g2⟩ := h2 t y hy; ⟨u, g1, g2.mono hle⟩⟩
def Rel (h : AHeap) (w : World) : Prop := ∀ b o, h b = some o → ∃ x, w.heap[b]? = some x ∧ BRel (stab h w) o x
structure Evol (h : AHeap) (w : World) (h' : AHeap) (w' : World) : Prop where
  os : w'.os = w.os
  tape : w'.tape = w.tape
  output : w'.output = w.output
  size : w.heap.size ≤ w'.heap.size
  stab : (stab h w).le (stab h' w')
  free : ∀ b, b < w.heap.size → h b = none → h' b = none ∧ w'.heap[b]? = w.heap[b]?
theorem Evol.refl (h : AHeap) (w : World) : Evol h w h w := ⟨rfl, rfl, rfl, Nat.le_refl _, .refl _, fun b _ hb => ⟨hb, rfl⟩⟩
theorem Evol.trans {h h' h'' : AHeap} {w w' w'' : World} (e : Evol h w h' w') (e' : Evol h' w' h'' w'') : Evol h w h'' w'' :=
  ⟨e'.os.trans e.os, e'.tape.trans e.tape, e'.output.trans e.output, Nat.le_trans e.size e'.size, e.stab.trans e'.stab,
    fun b hb hn => let ⟨h1, h2⟩ := e.free b hb hn; let ⟨h3, h4⟩ := e'.free b (Nat.lt_of_lt_of_le hb e.size) h1; ⟨h3, h4.trans h2⟩⟩
theorem Rel.lt {h : AHeap} {w : World} (hr : Rel h w) {b : Nat} {o : ABlk} (hb : h b = some o) : b < w.heap.size := by
  obtain ⟨x, hx, _⟩ := hr b o hb
  exact (Array.getElem?_eq_some_iff.1 hx).1
theorem Rel.fresh {h : AHeap} {w : World} (hr : Rel h w) : h w.heap.size = none := by
  cases hh : h w.heap.size with
  | none => rfl
  | some o => exact absurd (hr.lt hh) (Nat.lt_irrefl _)
theorem Rel.free {h : AHeap} {w : World} (hr : Rel h w) {b : Nat} (hb : w.heap.size ≤ b) : h b = none := by
  cases hh : h b with
  | none => rfl
  | some o => exact absurd (hr.lt hh) (by omega)
theorem Rel.step {h h' : AHeap} {w w' : World} {b : Nat} (hr : Rel h w) (hh : ∀ x, x ≠ b → h' x = h x) (hw : ∀ x, x ≠ b → (h x).isSome → w'.heap[x]? = w.heap[x]?)
    (hle : (stab h w).le (stab h' w')) (hb : ∀ o, h' b = some o → ∃ x, w'.heap[b]? = some x ∧ BRel (stab h' w') o x) : Rel h' w' := by
  intro x o ho
  by_cases hx : x = b
  · subst hx; exact hb o ho
  · rw [hh x hx] at ho
    obtain ⟨y, hy, hbr⟩ := hr x o ho
    exact ⟨y, by rw [hw x hx (by simp [ho])]; exact hy, hbr.mono hle⟩
theorem cell?_congr {w w' : World} {a : Addr} (h : w'.heap[a.block]? = w.heap[a.block]?) : w'.cell? a = w.cell? a := by simp [World.cell?, h]
theorem stab_congr {h h' : AHeap} {w w' : World} {a : Addr} (hh : h' a.block = h a.block) (hw : w'.heap[a.block]? = w.heap[a.block]?) : stab h' w' a = stab h w a := by
  simp only [stab, hh, cell?_congr hw]
theorem heap_alloc_lt (w : World) (o : Obj) {b : Nat} (hb : b < w.heap.size) : (w.alloc o).heap[b]? = w.heap[b]? := Go.RowKit.Below.heap_alloc w o b hb
theorem heap_alloc_eq (w : World) (o : Obj) : (w.alloc o).heap[w.heap.size]? = some o := by show (w.heap.push o)[w.heap.size]? = _; simp
theorem cell?_none_of_ge {w : World} {a : Addr} (h : w.heap.size ≤ a.block) : w.cell? a = none := by simp [World.cell?, Array.getElem?_eq_none h]
theorem stab_alloc {h h' : AHeap} {w : World} {o : Obj} (hr : Rel h w) (hh : ∀ x, x ≠ w.heap.size → h' x = h x) : (stab h w).le (stab h' (w.alloc o)) := by
  intro a u ha
  have hlt : a.block < w.heap.size := by
    rcases Nat.lt_or_ge a.block w.heap.size with hl | hg
    · exact hl
    · simp [stab, hr.free hg, cell?_none_of_ge hg] at ha
  rw [stab_congr (hh _ (by omega)) (heap_alloc_lt w o hlt)]
  exact ha
theorem Evol.alloc {h h' : AHeap} {w : World} {o : Obj} (hr : Rel h w) (hh : ∀ x, x ≠ w.heap.size → h' x = h x) : Evol h w h' (w.alloc o) :=
  ⟨rfl, rfl, rfl, by simp, stab_alloc hr hh, fun b hb hn => ⟨by rw [hh b (by omega)]; exact hn, heap_alloc_lt w o hb⟩⟩
theorem Rel.alloc {h : AHeap} {w : World} (hr : Rel h w) (o : Obj) : Rel h (w.alloc o) :=
  hr.step (b := w.heap.size) (fun _ _ => rfl) (fun x _ hs => heap_alloc_lt w o (by
    obtain ⟨y, hy⟩ := Option.isSome_iff_exists.1 hs; exact hr.lt hy)) (stab_alloc hr fun _ _ => rfl) (fun o' ho => by rw [hr.fresh] at ho; cases ho)
theorem Rel.alloc_own {h : AHeap} {w : World} (hr : Rel h w) {o : Obj} {b : ABlk} (hb : BRel (stab h w) b o) : Rel (h.set w.heap.size b) (w.alloc o) := by
  have hle := stab_alloc (o := o) (h' := h.set w.heap.size b) hr fun x hx => AHeap.set_other _ _ hx
  refine hr.step (b := w.heap.size) (fun x hx => AHeap.set_other _ _ hx) (fun x _ hs => heap_alloc_lt w o (by
    obtain ⟨y, hy⟩ := Option.isSome_iff_exists.1 hs; exact hr.lt hy)) hle (fun o' ho => ?_)
  simp only [AHeap.set_same, Option.some.injEq] at ho
  subst ho
  exact ⟨o, heap_alloc_eq w o, hb.mono hle⟩
theorem stab_drew (h : AHeap) (w : World) : stab h w.drew = stab h w := by funext a; simp [stab]
theorem Rel.drew {h : AHeap} {w : World} (hr : Rel h w) : Rel h w.drew := by
  intro b o ho
  obtain ⟨x, hx, hb⟩ := hr b o ho
  exact ⟨x, hx, by rw [stab_drew]; exact hb⟩
theorem Evol.drew (h : AHeap) (w : World) : Evol h w h w.drew := ⟨rfl, rfl, rfl, Nat.le_refl _, by rw [stab_drew]; exact .refl _, fun b _ hn => ⟨hn, rfl⟩⟩
end Go.Av
