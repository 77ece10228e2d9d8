/-
  AdyaDeps answers true for every history
-/
import Derived.Test.YthfolomknkobkaaP6
import Derived.Laws.IdiomStrings
import Derived.Laws.BytesString
import Derived.Laws.Tables
import Derived.Laws.Build
import Derived.Laws.CopyRow
set_option linter.unusedVariables false
namespace Go.Av
def AV.cells? : AV → Option (List AV)
  | .v (.agg vs) => if vs.toList.all Value.oneCell' then some (vs.toList.map .v) else none
  | .v x => if x.oneCell' then some [.v x] else none
  | .ag cs => if cs.all AV.one then some cs else none
  | .sl sz es c => some [.sl sz es c]
  | .rp cs => some [.rp cs]
  | .fn f a b => some [.fn f a b]
  | _ => none
theorem VRel.one {st : Store} {x : AV} {u : Value} (hv : VRel st x u) (h1 : x.one = true) : u.oneCell' = true := by
  cases hv <;> simp_all [AV.one, Value.oneCell']
theorem VRels.map_v {st : Store} : ∀ (l : List Value), VRels st (l.map .v) l
  | [] => .nil
  | x :: l => .cons (.v x) (VRels.map_v l)
theorem VRel.cells? {st : Store} {x : AV} {u : Value} {cs : List AV} (hv : VRel st x u) (hc : x.cells? = some cs) : VRels st cs u.cells.toList ∧ ∀ y ∈ u.cells.toList, y.oneCell' = true := by
  cases hv with
  | any => simp [AV.cells?] at hc
  | v y =>
    unfold AV.cells? at hc
    split at hc
    · rename_i vs he
      cases he
      split at hc
      · rename_i ha
        simp only [Option.some.injEq] at hc
        subst hc
        exact ⟨VRels.map_v _, fun y hy => List.all_eq_true.1 ha y hy⟩
      · cases hc
    · rename_i y' hne he
      cases he
      split at hc
      · rename_i ha
        simp only [Option.some.injEq] at hc
        subst hc
        have hcc : u.cells = #[u] := by cases u <;> first | rfl | (exact absurd rfl (hne _))
        rw [hcc]
        exact ⟨.cons (.v u) .nil, by simpa using ha⟩
      · cases hc
    all_goals simp_all
  | sl sz es c b off cap vs h1 h2 h3 h4 h5 h6 =>
    simp only [AV.cells?, Option.some.injEq] at hc
    subst hc
    exact ⟨.cons (.sl sz es c b off cap vs h1 h2 h3 h4 h5 h6) .nil, by simp [Value.cells, Value.oneCell']⟩
  | nil sz c a h =>
    simp only [AV.cells?, Option.some.injEq] at hc
    subst hc
    exact ⟨.cons (.nil sz c a h) .nil, by simp [Value.cells, Value.oneCell']⟩
  | rp cs' b off vs h1 h2 =>
    simp only [AV.cells?, Option.some.injEq] at hc
    subst hc
    exact ⟨.cons (.rp cs' b off vs h1 h2) .nil, by simp [Value.cells, Value.oneCell']⟩
  | ag cs' vs h =>
    simp only [AV.cells?] at hc
    split at hc
    · rename_i ha
      simp only [Option.some.injEq] at hc
      subst hc
      refine ⟨h, fun y hy => ?_⟩
      obtain ⟨i, hi, rfl⟩ := List.getElem_of_mem (show y ∈ vs.toList from hy)
      obtain ⟨a, ha', hr⟩ := h.get' (i := i) (u := vs.toList[i]) (by simp)
      exact hr.one (List.all_eq_true.1 ha a (List.mem_of_getElem? ha'))
    · cases hc
  | tu => simp [AV.cells?] at hc
  | fn f as bs us vs h1 h2 =>
    simp only [AV.cells?, Option.some.injEq] at hc
    subst hc
    exact ⟨.cons (.fn f as bs us vs h1 h2) .nil, by simp [Value.cells, Value.oneCell']⟩
section
variable {P : Program} {c : Cls} {E : AEnv} {h : AHeap} {K : AV → AHeap → Prop}
theorem run_sizeOf' {t : TypeId} {s : Nat} (hs : szOf P t = some s) (w : World) : (sizeOf t).run P w = .ok s w := by
  unfold szOf at hs
  cases hi : P.info? t with
  | none => simp [hi] at hs
  | some i => simp [hi] at hs; subst hs; simp [sizeOf, typeInfo, hi]
theorem run_zeroValue' {t : TypeId} {z : Value} (hz : zeroOf P t = some z) (w : World) : (zeroValue t).run P w = .ok z w := by
  unfold zeroOf at hz
  cases hi : P.info? t with
  | none => simp [hi] at hz
  | some i => simp [hi] at hz; simp [zeroValue, typeInfo, hi, hz]
theorem run_isAgg {t : TypeId} {a : Bool} (ha : aggOf P t = some a) (w : World) : (isAgg t).run P w = .ok a w := by
  unfold aggOf at ha
  split at ha
  · rename_i h; simp at ha; subst ha; simp [isAgg, run_underlying h]
  · rename_i h; simp at ha; subst ha; simp [isAgg, run_underlying h]
  · rename_i d h h1 h2
    simp at ha; subst ha
    simp only [isAgg, Sem.run_bind, run_underlying h2, Result.andThen_ok]
    cases d <;> simp_all
  · cases ha
def byteCell (b : UInt8) : List AV := [.v (.int .u8 b.toNat)]
def byteCells (l : List UInt8) : List (List AV) := l.map byteCell
theorem byteCells_flatten : ∀ (l : List UInt8), (byteCells l).flatten = l.map fun b => AV.v (.int .u8 b.toNat)
  | [] => rfl
  | b :: l => by
    have := byteCells_flatten l
    simp only [byteCells] at this
    simp [byteCells, byteCell, this]
theorem byteCells_sz (l : List UInt8) : ∀ e ∈ byteCells l, e.length = 1 := by
  intro e he
  simp only [byteCells, List.mem_map] at he
  obtain ⟨b, _, rfl⟩ := he
  rfl
theorem VRels.atoms {st : Store} : ∀ {l : List Value} {us : List Value}, VRels st (l.map .v) us → us = l
  | [], _, .nil => rfl
  | x :: l, _, .cons h1 h2 => by rw [h1.inv_v, VRels.atoms h2]
theorem foldl_push_bytes : ∀ (l : List UInt8) (acc : ByteArray), (l.map fun b => ((b.toNat : Nat) : Int)).foldl (fun r n => r.push (UInt8.ofNat n.toNat)) acc = ⟨acc.data ++ l.toArray⟩
  | [], acc => by simp
  | b :: l, acc => by
    simp only [List.map_cons, List.foldl_cons]
    rw [foldl_push_bytes l]
    have h1 : UInt8.ofNat ((b.toNat : Nat) : Int).toNat = b := by simp
    rw [h1]
    show (⟨(acc.data.push b) ++ l.toArray⟩ : ByteArray) = _
    congr 1
    rw [Array.push_eq_append, Array.append_assoc]
    simp
theorem loadCells_holds {st : Store} {w : World} {b off : Nat} {vs : List Value} (hle : ∀ a u, st a = some u → w.cell? a = some u) (hh : holdsAt st b off vs) : (loadCells ⟨b, off, none⟩ vs.length).run P w = .ok vs.toArray w :=
  run_loadCells_list (P := P) w ⟨b, off, none⟩ vs fun j v hv => by rw [Addr.add_lit]; exact hle _ _ (hh j v hv)
theorem stab_cell {h : AHeap} {w : World} {a : Addr} {u : Value} (hs : stab h w a = some u) : w.cell? a = some u := by
  unfold stab at hs
  split at hs
  · exact hs
  · split at hs
    · exact hs
    · cases hs
  · cases hs
theorem R.toStr {x : Operand} {l : List UInt8} {cc : Cap} (hx : aev E x = some (.sl 1 (byteCells l) cc)) (hk : K (.v (.string ⟨l.toArray⟩)) h) : ROpS P c (.toStr x) E h K :=
  ROpS.of_pure (fun o ho h' => AOp.value fun ρ w hops hr => by
    have hres := resOp_sound ho
    generalize hop : o.op = op' at hres hops
    cases hres with
    | convBS s d e _ h1 h2 h3 =>
      have e1 := hops x (by simp [Op.operands]) _ hx
      generalize hux : ρ x = ux at e1
      refine ⟨_, ?_, .v _⟩
      simp only [execOp, hop, hux]
      generalize hbc : byteCells l = bc at e1
      cases e1 with
      | nil _ _ a =>
        have : l = [] := by cases l <;> simp_all [byteCells]
        subst this
        cases a <;> simp [convert, run_underlying h1, run_underlying h2, run_underlying h3, Conv.bytesToString] <;> rfl
      | sl _ _ _ b off cap vs g1 g2 g3 g4 g5 g6 =>
        subst hbc
        rw [byteCells_flatten] at g1
        have hvs : vs = (l.map fun b => ((b.toNat : Nat) : Int)).map (Value.int .u8) := by
          have : (l.map fun b => AV.v (.int .u8 b.toNat)) = ((l.map fun b => ((b.toNat : Nat) : Int)).map (Value.int .u8)).map AV.v := by simp
          rw [this] at g1
          exact g1.atoms
        have hl : (byteCells l).length = vs.length := by rw [hvs]; simp [byteCells]
        have hload := loadCells_holds (P := P) (st := stab h' w) (w := w) (fun a u => stab_cell) g2
        rw [← hl, hvs] at hload
        have := run_bytesToString (P := P) w ⟨b, off, none⟩ (byteCells l).length cap _ hload
        simp only [convert, Sem.run_bind, run_underlying h1, run_underlying h2, run_underlying h3, Result.andThen_ok]
        rw [this, foldl_push_bytes]
        simp) hk
theorem R.toBytes {x : Operand} {s : ByteArray} (hx : aev E x = some (.v (.string s))) (hs : s.size ≤ maxLen) (hk : K (.sl 1 (byteCells s.data.toList) .ro) h) : ROpS P c (.toBytes x) E h K :=
  ROpS.of_pure (fun o ho h' => AOp.value' fun ρ w hops hr => by
    have hres := resOp_sound ho
    generalize hop : o.op = op' at hres hops
    cases hres with
    | convSB s' d e _ h1 h2 h3 =>
      have e1 := (hops x (by simp [Op.operands]) _ hx).inv_v
      have hrun := run_bytes_of_string (P := P) w s' d e s h1 h2 h3
      refine ⟨_, _, by simp only [execOp, hop, Sem.run_bind, e1, hrun, Result.andThen_ok]; rfl, ?_, hr.drew.alloc _, (Evol.drew h' w).trans (Evol.alloc hr.drew fun _ _ => rfl)⟩
      have hge : s.size ≤ grownCap w s.size 0 e := grownCap_ge w s.size 0 e
      have hle : grownCap w s.size 0 e ≤ maxLen := grownCap_le_maxLen w s.size 0 e hs
      have hlen : (byteCells s.data.toList).length = s.size := by simp [byteCells]
      have := VRel.sl (st := stab h' (w.drew.alloc (.cells (bytesRow s (grownCap w s.size 0 e)) e ((bytesRow s (grownCap w s.size 0 e)).size, (bytesRow s (grownCap w s.size 0 e)).size + 1)))) 1 (byteCells s.data.toList) .ro w.heap.size 0 (grownCap w s.size 0 e) (s.data.toList.map fun b => Value.int .u8 b.toNat)
        (by
          rw [byteCells_flatten]
          have : (s.data.toList.map fun b => AV.v (.int .u8 b.toNat)) = (s.data.toList.map fun b => Value.int .u8 b.toNat).map AV.v := by simp
          rw [this]; exact VRels.map_v _)
        (by
          intro i u hi
          have hfree : h' w.heap.size = none := hr.fresh
          simp only [stab, hfree]
          have : (w.drew.alloc (.cells (bytesRow s (grownCap w s.size 0 e)) e ((bytesRow s (grownCap w s.size 0 e)).size, (bytesRow s (grownCap w s.size 0 e)).size + 1))).cell? ⟨w.heap.size, 0 + i, none⟩ = (bytesRow s (grownCap w s.size 0 e))[0 + i]? := by
            have hh := heap_alloc_eq w.drew (.cells (bytesRow s (grownCap w s.size 0 e)) e ((bytesRow s (grownCap w s.size 0 e)).size, (bytesRow s (grownCap w s.size 0 e)).size + 1))
            simp only [World.size_drew] at hh
            simp only [World.cell?, hh]
            simp
          rw [this]
          simp only [bytesRow, Nat.zero_add]
          rw [Array.getElem?_append_left (by simp; have := (List.getElem?_eq_some_iff.1 hi).1; simpa using this)]
          simpa using hi)
        (byteCells_sz _) (by rw [hlen]; exact hge) hle trivial
      rw [hlen] at this
      exact this) hk
theorem R.nilCheck {x : Operand} {a : Addr} (hx : aev E x = some (.v (.pointer (some a)))) (hk : K (.v (.pointer (some a))) h) : ROpS P c (.nilCheck x) E h K :=
  ROpS.of_pure (fun o ho h' => AOp.value fun ρ w hops hr => by
    have hres := resOp_sound ho
    generalize hop : o.op = op' at hres hops
    cases hres with
    | nilCheck =>
      have e1 := (hops x (by simp [Op.operands]) _ hx).inv_v
      exact ⟨_, by simp only [execOp, hop, e1]; rfl, .v _⟩) hk
theorem R.nilCheckR {x : Operand} {cs : List AV} (hx : aev E x = some (.rp cs)) (hk : K (.rp cs) h) : ROpS P c (.nilCheck x) E h K :=
  ROpS.of_pure (fun o ho h' => AOp.value fun ρ w hops hr => by
    have hres := resOp_sound ho
    generalize hop : o.op = op' at hres hops
    cases hres with
    | nilCheck =>
      have e1 := hops x (by simp [Op.operands]) _ hx
      generalize hux : ρ x = ux at e1
      cases e1 with
      | rp _ b off vs g1 g2 => exact ⟨_, by simp only [execOp, hop, hux]; rfl, .rp cs b off vs g1 g2⟩) hk
theorem run_fieldAt' {t : TypeId} {fs : Array Field} {i : Nat} {f : Field} {s : Nat} (h1 : P.underlying t = some (.struct fs)) (h2 : fs[i]? = some f) (h3 : szOf P f.type = some s) (h4 : s ≠ 0) (b off : Nat) (w : World) :
    (Instr.fieldAt t (.pointer (some ⟨b, off, none⟩)) i).run P w = .ok (.pointer (some ⟨b, off + f.offset, none⟩)) w := by
  simp [Instr.fieldAt, run_underlying h1, h2, Instr.sureAddr, fieldPlace, run_sizeOf' h3, h4, Addr.add_lit]
theorem R.fieldAddr {off : Nat} {x : Operand} {b o : Nat} (hx : aev E x = some (.v (.pointer (some ⟨b, o, none⟩)))) (hk : K (.v (.pointer (some ⟨b, o + off, none⟩))) h) : ROpS P c (.fieldAddr off x) E h K :=
  ROpS.of_pure (fun oo ho h' => AOp.value fun ρ w hops hr => by
    have hres := resOp_sound ho
    generalize hop : oo.op = op' at hres hops
    cases hres with
    | fieldAddr t _ i fs f s h1 h2 h3 h4 =>
      have e1 := (hops x (by simp [Op.operands]) _ hx).inv_v
      exact ⟨_, by simp only [execOp, hop, Sem.run_bind, e1, run_fieldAt' h1 h2 h3 h4, Result.andThen_ok]; rfl, .v _⟩) hk
theorem R.fieldAddrR {off : Nat} {x : Operand} {cs : List AV} (hx : aev E x = some (.rp cs)) (hk : K (.rp (cs.drop off)) h) : ROpS P c (.fieldAddr off x) E h K :=
  ROpS.of_pure (fun oo ho h' => AOp.value fun ρ w hops hr => by
    have hres := resOp_sound ho
    generalize hop : oo.op = op' at hres hops
    cases hres with
    | fieldAddr t _ i fs f s h1 h2 h3 h4 =>
      have e1 := hops x (by simp [Op.operands]) _ hx
      generalize hux : ρ x = ux at e1
      cases e1 with
      | rp _ b o vs g1 g2 =>
        exact ⟨_, by simp only [execOp, hop, Sem.run_bind, hux, run_fieldAt' h1 h2 h3 h4, Result.andThen_ok]; rfl, .rp _ b _ _ (g1.drop _) (g2.drop _)⟩) hk
theorem run_part {t : TypeId} {a : Bool} {s : Nat} (ha : aggOf P t = some a) (hs : szOf P t = some s) (cs : Array Value) (off : Nat) (w : World) {v : Value}
    (hv : if a then v = .agg (cs.extract off (off + s)) else cs[off]? = some v) : (part t cs off).run P w = .ok v w := by
  simp only [part, Sem.run_bind, run_isAgg ha, Result.andThen_ok]
  cases a with
  | true => simp at hv; subst hv; simp [run_sizeOf' hs]
  | false => simp at hv; simp [hv]
theorem R.field {agg : Bool} {off sz : Nat} {x : Operand} {cs : List AV} {av : AV} (hx : aev E x = some (.ag cs)) (hv : (if agg then (if off + sz ≤ cs.length then some (.ag ((cs.drop off).take sz)) else none) else cs[off]?) = some av)
    (hk : K av h) : ROpS P c (.field agg off sz x) E h K :=
  ROpS.of_pure (fun oo ho h' => AOp.value fun ρ w hops hr => by
    have hres := resOp_sound ho
    generalize hop : oo.op = op' at hres hops
    cases hres with
    | field t _ i fs f s a h1 h2 h3 h4 =>
      have e1 := hops x (by simp [Op.operands]) _ hx
      generalize hux : ρ x = ux at e1
      cases e1 with
      | ag _ vs g =>
        cases agg with
        | true =>
          simp only [if_true] at hv
          split at hv
          · rename_i hle
            simp only [Option.some.injEq] at hv
            subst hv
            refine ⟨.agg (vs.extract f.offset (f.offset + sz)), ?_, .ag _ _ ?_⟩
            · simp only [execOp, hop, Instr.field, Sem.run_bind, hux, run_underlying h1, Result.andThen_ok, h2, asAgg, Sem.run_pure, run_part h4 h3 vs f.offset w (v := .agg (vs.extract f.offset (f.offset + sz))) (by simp)]
            · have := (g.drop f.offset).take sz
              rw [Array.toList_extract, List.extract_eq_take_drop]
              simpa using this
          · cases hv
        | false =>
          simp only [Bool.false_eq_true, if_false] at hv
          obtain ⟨u, hu, hr'⟩ := g.get hv
          refine ⟨u, ?_, hr'⟩
          simp only [execOp, hop, Instr.field, Sem.run_bind, hux, run_underlying h1, Result.andThen_ok, h2, asAgg, Sem.run_pure, run_part h4 h3 vs f.offset w (v := u) (by simpa using hu)]) hk
theorem R.extract {x : Operand} {i : Nat} {cs : List AV} {av : AV} (hx : aev E x = some (.tu cs)) (hv : cs[i]? = some av) (hk : K av h) : ROpS P c (.extract x i) E h K :=
  ROpS.of_pure (fun oo ho h' => AOp.value fun ρ w hops hr => by
    have hres := resOp_sound ho
    generalize hop : oo.op = op' at hres hops
    cases hres with
    | extract =>
      have e1 := hops x (by simp [Op.operands]) _ hx
      generalize hux : ρ x = ux at e1
      cases e1 with
      | tu _ vs g =>
        obtain ⟨u, hu, hr'⟩ := g.get hv
        refine ⟨u, ?_, hr'⟩
        have hu' : vs[i]? = some u := by simpa using hu
        simp only [execOp, hop, Sem.run_bind, hux, Instr.extract, hu', Sem.run_pure, Result.andThen_ok]) hk
theorem run_indexAt' {t e : TypeId} {s : Nat} (h1 : P.underlying t = some (.slice e)) (h2 : szOf P e = some s) (b off len cap : Nat) (k : IntKind) {i : Int} (h0 : 0 ≤ i) (hi : i < len) (w : World) :
    (Instr.indexAt t (.slice (some ⟨b, off, none⟩) len cap) (.int k i)).run P w = .ok (.pointer (some ⟨b, off + i.toNat * s, none⟩)) w := by
  simp [Instr.indexAt, asIntOf, run_underlying h1, h0, hi, run_sizeOf' h2, Addr.add_lit]
theorem R.indexAddr {sz : Nat} {x i : Operand} {es : List (List AV)} {cc : Cap} {k : IntKind} {n : Int} {e : List AV} (hx : aev E x = some (.sl sz es cc)) (hi : aev E i = some (.v (.int k n))) (h0 : 0 ≤ n) (he : es[n.toNat]? = some e)
    (hk : K (.rp e) h) : ROpS P c (.indexAddr sz x i) E h K :=
  ROpS.of_pure (fun oo ho h' => AOp.value fun ρ w hops hr => by
    have hres := resOp_sound ho
    generalize hop : oo.op = op' at hres hops
    cases hres with
    | indexAddr t el _ _ _ h1 h2 =>
      have e1 := hops x (by simp [Op.operands]) _ hx
      have e2 := (hops i (by simp [Op.operands]) _ hi).inv_v
      generalize hux : ρ x = ux at e1
      cases e1 with
      | nil => simp at he
      | sl _ _ _ b off cap vs g1 g2 g3 g4 g5 g6 =>
        have hlt : n.toNat < es.length := by
          rcases Nat.lt_or_ge n.toNat es.length with h' | h'
          · exact h'
          · simp [List.getElem?_eq_none h'] at he
        refine ⟨_, by simp only [execOp, hop, Sem.run_bind, hux, e2, run_indexAt' h1 h2 b off es.length cap k h0 (by omega), Result.andThen_ok]; rfl, ?_⟩
        have := VRel.rp (st := stab h' w) e b (off + n.toNat * sz) ((vs.drop (n.toNat * sz)).take sz) ?_ ((g2.drop _).take _)
        · exact this
        · rw [← flatten_elem g3 he]
          exact (g1.drop _).take _) hk
theorem R.indexStr {x i : Operand} {s : ByteArray} {k : IntKind} {n : Int} {b : UInt8} (hx : aev E x = some (.v (.string s))) (hi : aev E i = some (.v (.int k n))) (h0 : 0 ≤ n) (he : s.data.toList[n.toNat]? = some b)
    (hk : K (.v (.int .u8 b.toNat)) h) : ROpS P c (.indexStr x i) E h K :=
  ROpS.of_pure (fun oo ho h' => AOp.value fun ρ w hops hr => by
    have hres := resOp_sound ho
    generalize hop : oo.op = op' at hres hops
    cases hres with
    | indexStr t _ _ h1 =>
      have e1 := (hops x (by simp [Op.operands]) _ hx).inv_v
      have e2 := (hops i (by simp [Op.operands]) _ hi).inv_v
      have hb : s[n.toNat]? = some b := by
        have hlt := (List.getElem?_eq_some_iff.1 he).1
        have hb := (List.getElem?_eq_some_iff.1 he).2
        have hlt' : n.toNat < s.size := by simpa using hlt
        rw [getElem?_pos s n.toNat hlt']
        congr 1
      refine ⟨.int .u8 b.toNat, ?_, .v _⟩
      simp only [execOp, hop, Sem.run_bind, e1, e2, Instr.index, asIntOf, Sem.run_pure, Result.andThen_ok, run_underlying h1, if_pos h0, hb]) hk
theorem R.len {x : Operand} {sz : Nat} {es : List (List AV)} {cc : Cap} (hx : aev E x = some (.sl sz es cc)) (hk : K (.v (.int .i64 es.length)) h) : ROpS P c (.len x) E h K :=
  ROpS.of_pure (fun oo ho h' => AOp.value fun ρ w hops hr => by
    have hres := resOp_sound ho
    generalize hop : oo.op = op' at hres hops
    cases hres with
    | len cl _ t h1 h2 h3 h4 =>
      have e1 := hops x (by simp [Op.operands, Call.operands, h1, h2]) _ hx
      generalize hux : ρ x = ux at e1
      refine ⟨.int .i64 es.length, ?_, .v _⟩
      simp only [execOp, hop, resolve, h1, h2, h3, Sem.run_bind, Sem.run_pure, Result.andThen_ok, invoke, builtin, Builtin.len_, List.map_toArray, List.map_cons, List.map_nil, hux]
      obtain ⟨e, h4⟩ := h4
      cases e1 <;> simp [run_underlying h4, goInt]) hk
theorem R.lenA {x : Operand} {a : Option Addr} {n cp : Nat} (hx : aev E x = some (.v (.slice a n cp))) (hk : K (.v (.int .i64 n)) h) : ROpS P c (.len x) E h K :=
  ROpS.of_pure (fun oo ho h' => AOp.value fun ρ w hops hr => by
    have hres := resOp_sound ho
    generalize hop : oo.op = op' at hres hops
    cases hres with
    | len cl _ t h1 h2 h3 h4 =>
      have e1 := (hops x (by simp [Op.operands, Call.operands, h1, h2]) _ hx).inv_v
      refine ⟨.int .i64 n, ?_, .v _⟩
      obtain ⟨e, h4⟩ := h4
      simp only [execOp, hop, resolve, h1, h2, h3, Sem.run_bind, Sem.run_pure, Result.andThen_ok, invoke, builtin, Builtin.len_, List.map_toArray, List.map_cons, List.map_nil, e1]
      simp [run_underlying h4, goInt]) hk
theorem R.lenStr {x : Operand} {s : ByteArray} (hx : aev E x = some (.v (.string s))) (hk : K (.v (.int .i64 s.size)) h) : ROpS P c (.lenStr x) E h K :=
  ROpS.of_pure (fun oo ho h' => AOp.value fun ρ w hops hr => by
    have hres := resOp_sound ho
    generalize hop : oo.op = op' at hres hops
    cases hres with
    | lenStr cl _ t h1 h2 h3 h4 =>
      have e1 := (hops x (by simp [Op.operands, Call.operands, h1, h2]) _ hx).inv_v
      refine ⟨.int .i64 s.size, ?_, .v _⟩
      simp only [execOp, hop, resolve, h1, h2, h3, Sem.run_bind, Sem.run_pure, Result.andThen_ok, invoke, builtin, Builtin.len_, List.map_toArray, List.map_cons, List.map_nil, e1]
      simp [run_underlying h4, goInt]) hk
def optInt (E : AEnv) : Option Operand → Option (Option Int)
  | none => some none
  | some y => match aev E y with | some (.v (.int _ n)) => some (some n) | _ => none
theorem run_sliceBound' {k : IntKind} {i : Int} {y : Nat} {code : BoundsCode} (h0 : 0 ≤ i) (h1 : i ≤ y) (w : World) : (Instr.sliceBound (.int k i) y code).run P w = .ok i.toNat w := by
  simp [Instr.sliceBound, asIntOf, h0, h1]
theorem optInt_some {st : Store} {ρ : Operand → Value} {y : Operand} {n : Int} (hy : optInt E (some y) = some (some n)) (hops : ∀ av, aev E y = some av → VRel st av (ρ y)) : ∃ k, ρ y = .int k n := by
  unfold optInt at hy
  simp only at hy
  split at hy
  · rename_i k m hm
    simp at hy
    subst hy
    exact ⟨k, (hops _ hm).inv_v⟩
  · cases hy
def capCut (c : Cap) (lo hi len : Nat) (mx : Option Int) : Cap :=
  match mx with
  | some m => if m = hi then .full else .ro
  | none => if lo = 0 ∧ hi = len then c else match c with | .full => if hi = len then .full else .ro | _ => .ro
theorem run_sliceBounds' {len cap : Nat} {lo hi mx : Option Value} {l h' m : Int} (hlo : lo = none ∧ l = 0 ∨ ∃ k, lo = some (.int k l)) (hhi : hi = none ∧ h' = len ∧ mx = none ∨ ∃ k, hi = some (.int k h')) (hmx : mx = none ∧ m = cap ∨ ∃ k, mx = some (.int k m))
    (h0 : 0 ≤ l) (h1 : l ≤ h') (h2 : h' ≤ m) (h3 : m ≤ cap) (w : World) : (Instr.sliceBounds true len cap lo hi mx).run P w = .ok (l.toNat, h'.toNat, m.toNat) w := by
  have hM : ∀ k code, (Instr.sliceBound (.int k m) cap code).run P w = .ok m.toNat w := fun k code => run_sliceBound' (by omega) h3 w
  have hH : ∀ k code, (Instr.sliceBound (.int k h') m.toNat code).run P w = .ok h'.toNat w := fun k code => run_sliceBound' (by omega) (by omega) w
  have hL : ∀ k code, (Instr.sliceBound (.int k l) h'.toNat code).run P w = .ok l.toNat w := fun k code => run_sliceBound' (by omega) (by omega) w
  rcases hmx with ⟨e, e'⟩ | ⟨k3, e⟩ <;> subst e
  · have hc : m.toNat = cap := by omega
    rw [hc] at hH ⊢
    rcases hhi with ⟨e2, e3, _⟩ | ⟨k2, e2⟩ <;> subst e2
    · have hc' : h'.toNat = len := by omega
      rw [hc'] at hL ⊢
      rcases hlo with ⟨e4, e5⟩ | ⟨k1, e4⟩ <;> subst e4
      · subst e5; simp [Instr.sliceBounds]
      · simp [Instr.sliceBounds, hL]
    · rcases hlo with ⟨e4, e5⟩ | ⟨k1, e4⟩ <;> subst e4
      · subst e5; simp [Instr.sliceBounds, hH]
      · simp [Instr.sliceBounds, hH, hL]
  · rcases hhi with ⟨e2, e3, e6⟩ | ⟨k2, e2⟩
    · cases e6
    · subst e2
      rcases hlo with ⟨e4, e5⟩ | ⟨k1, e4⟩ <;> subst e4
      · subst e5; simp [Instr.sliceBounds, hH, hM]
      · simp [Instr.sliceBounds, hH, hL, hM]
theorem R.sliceSl {sz : Nat} {x : Operand} {lo hi mx : Option Operand} {es : List (List AV)} {cc : Cap} {a b : Int} {ol oh om : Option Int} (hx : aev E x = some (.sl sz es cc)) (hlo : optInt E lo = some ol) (hhi : optInt E hi = some oh) (hmx : optInt E mx = some om)
    (ha : a = ol.getD 0) (hb : b = oh.getD es.length) (h0 : 0 ≤ a) (h1 : a ≤ b) (h2 : b ≤ es.length) (hm : om = none ∨ om = some b ∧ oh.isSome) (hsz : 0 < sz)
    (hk : K (.sl sz ((es.drop a.toNat).take (b.toNat - a.toNat)) (capCut cc a.toNat b.toNat es.length om)) h) : ROpS P c (.sliceSl sz x lo hi mx) E h K :=
  ROpS.of_pure (fun oo ho h' => AOp.value fun ρ w hops hr => by
    have hres := resOp_sound ho
    generalize hop : oo.op = op' at hres hops
    cases hres with
    | sliceSl t el _ _ _ _ _ g1 g2 =>
      have e1 := hops x (by simp [Op.operands]) _ hx
      have olo : lo.map ρ = none ∧ a = 0 ∨ ∃ k, lo.map ρ = some (.int k a) := by
        cases lo with
        | none => simp [optInt] at hlo; subst hlo; exact .inl ⟨rfl, by simpa using ha⟩
        | some y =>
          right
          cases ol with
          | none => unfold optInt at hlo; simp only at hlo; split at hlo <;> simp at hlo
          | some n => obtain ⟨k, hk'⟩ := optInt_some hlo (st := stab h' w) (ρ := ρ) (fun av => hops y (by simp [Op.operands]) av); exact ⟨k, by simp [hk', ha]⟩
      have ohi : hi.map ρ = none ∧ b = es.length ∧ oh = none ∨ ∃ k, hi.map ρ = some (.int k b) := by
        cases hi with
        | none => simp [optInt] at hhi; subst hhi; exact .inl ⟨rfl, by simpa using hb, rfl⟩
        | some y =>
          right
          cases oh with
          | none => unfold optInt at hhi; simp only at hhi; split at hhi <;> simp at hhi
          | some n => obtain ⟨k, hk'⟩ := optInt_some hhi (st := stab h' w) (ρ := ρ) (fun av => hops y (by simp [Op.operands]) av); exact ⟨k, by simp [hk', hb]⟩
      have omx : mx.map ρ = none ∧ om = none ∨ ∃ k m, mx.map ρ = some (.int k m) ∧ om = some m := by
        cases mx with
        | none => simp [optInt] at hmx; exact .inl ⟨rfl, hmx.symm⟩
        | some y =>
          right
          cases om with
          | none => unfold optInt at hmx; simp only at hmx; split at hmx <;> simp at hmx
          | some n => obtain ⟨k, hk'⟩ := optInt_some hmx (st := stab h' w) (ρ := ρ) (fun av => hops y (by simp [Op.operands]) av); exact ⟨k, n, by simp [hk'], rfl⟩
      generalize hux : ρ x = ux at e1
      cases e1 with
      | nil _ _ aa hpl =>
        simp at h2
        have ea : a = 0 := by omega
        have eb : b = 0 := by omega
        subst ea
        subst eb
        have hb' : (Instr.sliceBounds true 0 0 (lo.map ρ) (hi.map ρ) (mx.map ρ)).run P w = .ok ((0:Int).toNat, (0:Int).toNat, (0:Int).toNat) w := by
          refine run_sliceBounds' (l := 0) (h' := 0) (m := 0) (olo.imp id id) ?_ ?_ (by omega) (by omega) (by omega) (by omega) w
          · rcases ohi with ⟨q1, q2, q3⟩ | hq
            · rcases omx with ⟨p1, _⟩ | ⟨k, m, p1, p2⟩
              · exact .inl ⟨q1, rfl, p1⟩
              · rcases hm with hm | ⟨hm, hm'⟩
                · rw [hm] at p2; cases p2
                · rw [q3] at hm'; cases hm'
            · exact .inr hq
          · rcases omx with ⟨p1, _⟩ | ⟨k, m, p1, p2⟩
            · exact .inl ⟨p1, rfl⟩
            · rcases hm with hm | ⟨hm, hm'⟩
              · rw [hm] at p2; cases p2
              · rw [hm] at p2; cases p2; exact .inr ⟨k, p1⟩
        refine ⟨.slice aa 0 0, ?_, ?_⟩
        · simp only [execOp, hop, Instr.sliceAt, Sem.run_bind, run_underlying g1, Result.andThen_ok, Instr.slice, hux, hb', run_sizeOf' g2]
          cases aa <;> first | rfl | simp
        · have hcp : (capCut cc (0:Int).toNat (0:Int).toNat ([] : List (List AV)).length om).plain := by
            unfold capCut
            cases om with
            | none => simpa using hpl
            | some m => simp only; split <;> trivial
          simpa using VRel.nil (st := stab h' w) sz _ _ hcp
      | sl _ _ _ bb off cap vs k1 k2 k3 k4 k5 k6 =>
        obtain ⟨m, hm1, hm2, hm3, hm4⟩ : ∃ m : Int, (mx.map ρ = none ∧ m = cap ∧ om = none ∨ (∃ k, mx.map ρ = some (.int k m)) ∧ om = some m ∧ m = b) ∧ b ≤ m ∧ m ≤ cap ∧ (oh = none → mx.map ρ = none) := by
          rcases omx with ⟨p1, p2⟩ | ⟨k, m, p1, p2⟩
          · exact ⟨cap, .inl ⟨p1, rfl, p2⟩, by omega, by omega, fun _ => p1⟩
          · rcases hm with hm | ⟨hm, hm'⟩
            · rw [hm] at p2; cases p2
            · rw [hm] at p2; cases p2; exact ⟨b, .inr ⟨⟨k, p1⟩, hm, rfl⟩, by omega, by omega, fun e => by rw [e] at hm'; cases hm'⟩
        have hb' := run_sliceBounds' (P := P) (len := es.length) (cap := cap) (lo := lo.map ρ) (hi := hi.map ρ) (mx := mx.map ρ) (l := a) (h' := b) (m := m) olo
          (by rcases ohi with ⟨q1, q2, q3⟩ | hq
              · exact .inl ⟨q1, q2, hm4 q3⟩
              · exact .inr hq)
          (by rcases hm1 with ⟨p1, p2, _⟩ | ⟨p1, _⟩
              · exact .inl ⟨p1, p2⟩
              · exact .inr p1) h0 h1 hm2 hm3 w
        have hlen : ((es.drop a.toNat).take (b.toNat - a.toNat)).length = b.toNat - a.toNat := by simp; omega
        have hcells : VRels (stab h' w) ((es.drop a.toNat).take (b.toNat - a.toNat)).flatten ((vs.drop (a.toNat * sz)).take ((b.toNat - a.toNat) * sz)) := by
          rw [← flatten_take (sz := sz) _ _ (fun e he => k3 e (List.mem_of_mem_drop he)), ← flatten_drop (sz := sz) _ _ k3]
          exact (k1.drop _).take _
        have hmem : ∀ e ∈ (es.drop a.toNat).take (b.toNat - a.toNat), e.length = sz := fun e he => k3 e (List.mem_of_mem_drop (List.mem_of_mem_take he))
        have hval : ∀ bb' off' cap', (bb' = bb) → (off' = off + a.toNat * sz ∨ b.toNat = a.toNat) → b.toNat - a.toNat ≤ cap' → cap' ≤ maxLen → (capCut cc a.toNat b.toNat es.length om).ok bb' off' (b.toNat - a.toNat) cap' sz →
            VRel (stab h' w) (.sl sz ((es.drop a.toNat).take (b.toNat - a.toNat)) (capCut cc a.toNat b.toNat es.length om)) (.slice (some ⟨bb', off', none⟩) (b.toNat - a.toNat) cap') := by
          intro bb' off' cap' eb eo hc1 hc2 hc3
          subst eb
          have hh : holdsAt (stab h' w) bb' off' ((vs.drop (a.toNat * sz)).take ((b.toNat - a.toNat) * sz)) := by
            rcases eo with eo | eo
            · rw [eo]; exact (k2.drop _).take _
            · rw [eo]; simp only [Nat.sub_self, Nat.zero_mul, List.take_zero]; intro i u hi'; simp at hi'
          have := VRel.sl (st := stab h' w) sz ((es.drop a.toNat).take (b.toNat - a.toNat)) (capCut cc a.toNat b.toNat es.length om) bb' off' cap' _ hcells hh hmem (by rw [hlen]; exact hc1) hc2 (by rw [hlen]; exact hc3)
          rw [hlen] at this
          exact this
        have hrun : (execOp ρ oo).run P w = .ok (.value (.slice (if m.toNat = a.toNat then (some ⟨bb, off, none⟩) else some ⟨bb, off + a.toNat * sz, none⟩) (b.toNat - a.toNat) (m.toNat - a.toNat))) w := by
          simp only [execOp, hop, Instr.sliceAt, Sem.run_bind, run_underlying g1, Result.andThen_ok, Instr.slice, hux, hb', run_sizeOf' g2]
          split <;> simp [Addr.add_lit]
        have hcok : ∀ off', (off' = off + a.toNat * sz ∨ (m.toNat = a.toNat ∧ off' = off)) → (capCut cc a.toNat b.toNat es.length om).ok bb off' (b.toNat - a.toNat) (m.toNat - a.toNat) sz := by
          intro off' hoff
          unfold capCut
          rcases hm1 with ⟨_, p2, p3⟩ | ⟨_, p3, p2⟩
          · subst p3
            simp only
            split
            · rename_i hz
              have hm' : m.toNat = cap := by omega
              have ha' : a.toNat = 0 := hz.1
              have : off' = off := by rcases hoff with e | ⟨_, e⟩ <;> simp [e, ha']
              rw [hm', ha', this, hz.2]
              simpa using k6
            · rename_i hz
              cases cc with
              | ro => trivial
              | full =>
                simp only
                split
                · rename_i hz'
                  have : cap = es.length := k6
                  simp only [Cap.ok]
                  omega
                · trivial
              | tok _ _ _ => trivial
          · subst p3
            simp only
            split
            · simp only [Cap.ok]; omega
            · trivial
        by_cases hma : m.toNat = a.toNat
        · refine ⟨_, hrun, ?_⟩
          rw [if_pos hma]
          exact hval bb off _ rfl (.inr (by omega)) (by omega) (by simp only [maxLen] at *; omega) (hcok off (.inr ⟨hma, rfl⟩))
        · refine ⟨_, hrun, ?_⟩
          rw [if_neg hma]
          exact hval bb (off + a.toNat * sz) _ rfl (.inl rfl) (by omega) (by simp only [maxLen] at *; omega) (hcok _ (.inl rfl))) hk
end
end Go.Av
