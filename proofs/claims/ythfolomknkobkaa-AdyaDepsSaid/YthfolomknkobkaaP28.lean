/-
  AdyaDeps answers true for every history
-/
import Derived.Test.YthfolomknkobkaaP18
import Derived.Test.YthfolomknkobkaaP27
import Derived.Lib.Bytealg
import Derived.Laws.MakeOwn
import Derived.Lib.BytesEntry
set_option linter.unusedVariables false
namespace Go.Av
theorem ALes.trans {xs ys zs : List AV} (h1 : ALes xs ys) (h2 : ALes ys zs) : ALes xs zs := by
  induction h1 generalizing zs with
  | nil => exact h2
  | cons a b ih => cases h2 with | cons c d => exact .cons (a.trans c) (ih d)
theorem BLe.trans {x y z : ABlk} (h1 : BLe x y) (h2 : BLe y z) : BLe x z := by
  cases h1 with
  | refl => exact h2
  | box a => cases h2 with
    | refl => exact .box a
    | box b => exact .box (a.trans b)
theorem AHeap.le.trans {a b c : AHeap} (h1 : a.le b) (h2 : b.le c) : a.le c := fun x o e => by
  obtain ⟨o1, e1, l1⟩ := h1 x o e
  obtain ⟨o2, e2, l2⟩ := h2 x o1 e1
  exact ⟨o2, e2, l2.trans l1⟩
theorem AHeap.z4 {h : AHeap} {c b0 b1 b2 b3 : Nat} {o0 o1 o2 o3 : ABlk} (hc : ((((h.set b0 o0).set b1 o1).set b2 o2).set b3 o3) c = none) : h c = none := (AHeap.fresh_set (AHeap.fresh_set (AHeap.fresh_set (AHeap.fresh_set hc).2).2).2).2
theorem AHeap.z5 {h : AHeap} {c b0 b1 b2 b3 b4 : Nat} {o0 o1 o2 o3 o4 : ABlk} (hc : (((((h.set b0 o0).set b1 o1).set b2 o2).set b3 o3).set b4 o4) c = none) : h c = none := (AHeap.fresh_set (AHeap.fresh_set (AHeap.fresh_set (AHeap.fresh_set (AHeap.fresh_set hc).2).2).2).2).2
theorem AHeap.m2 {h : AHeap} {c b b0 b1 : Nat} {o o0 o1 : ABlk} (hc : (((h.set b o).set b0 o0).set b1 o1) c = none) : c ≠ b := (AHeap.fresh_set (AHeap.fresh_set (AHeap.fresh_set hc).2).2).1
theorem AHeap.p2 {h : AHeap} {c b b0 b1 : Nat} {o o0 o1 : ABlk} (hc : (((h.set b o).set b0 o0).set b1 o1) c = none) : b ≠ c := Ne.symm (AHeap.fresh_set (AHeap.fresh_set (AHeap.fresh_set hc).2).2).1
theorem AHeap.p3 {h : AHeap} {c b b0 b1 b2 : Nat} {o o0 o1 o2 : ABlk} (hc : ((((h.set b o).set b0 o0).set b1 o1).set b2 o2) c = none) : b ≠ c := Ne.symm (AHeap.fresh_set (AHeap.fresh_set (AHeap.fresh_set (AHeap.fresh_set hc).2).2).2).1
theorem AHeap.p4 {h : AHeap} {c b b0 b1 b2 b3 : Nat} {o o0 o1 o2 o3 : ABlk} (hc : (((((h.set b o).set b0 o0).set b1 o1).set b2 o2).set b3 o3) c = none) : b ≠ c := Ne.symm (AHeap.fresh_set (AHeap.fresh_set (AHeap.fresh_set (AHeap.fresh_set (AHeap.fresh_set hc).2).2).2).2).1
theorem AHeap.p5 {h : AHeap} {c b b0 b1 b2 b3 b4 : Nat} {o o0 o1 o2 o3 o4 : ABlk} (hc : ((((((h.set b o).set b0 o0).set b1 o1).set b2 o2).set b3 o3).set b4 o4) c = none) : b ≠ c := Ne.symm (AHeap.fresh_set (AHeap.fresh_set (AHeap.fresh_set (AHeap.fresh_set (AHeap.fresh_set (AHeap.fresh_set hc).2).2).2).2).2).1
section
variable {P : Program} {c : Cls} {E : AEnv} {h : AHeap} {K : AV → AHeap → Prop}
theorem run_indexArr' {t e : TypeId} {s n : Nat} (h1 : P.underlying t = some (.array n e)) (h2 : szOf P e = some s) (a : Addr) (k : IntKind) {i : Int} (h0 : 0 ≤ i) (hi : i < n) (w : World) :
    (Instr.indexAt t (.pointer (some a)) (.int k i)).run P w = .ok (.pointer (some (a.add (i.toNat * s)))) w := by
  simp [Instr.indexAt, run_underlying h1, Instr.sureAddr, asIntOf, h0, hi, run_sizeOf' h2]
theorem R.indexArr {n sz : Nat} {x i : Operand} {b off : Nat} {k : IntKind} {m : Int} (hx : aev E x = some (.v (.pointer (some ⟨b, off, none⟩)))) (hi : aev E i = some (.v (.int k m))) (h0 : 0 ≤ m) (hn : m < n)
    (hk : K (.v (.pointer (some ⟨b, off + m.toNat * sz, none⟩))) h) : ROpS P c (.indexArr n sz x i) E h K :=
  ROpS.of_pure (fun oo ho h' => AOp.value fun ρ w hops hr => by
    have hres := resOp_sound ho
    generalize hop : oo.op = op' at hres hops
    cases hres with
    | indexArr t el _ _ _ _ h1 h2 =>
      have e1 := (hops x (by simp [Op.operands]) _ hx).inv_v
      have e2 := (hops i (by simp [Op.operands]) _ hi).inv_v
      exact ⟨_, by simp only [execOp, hop, Sem.run_bind, e1, e2, run_indexArr' h1 h2 _ k h0 hn, Result.andThen_ok, Addr.add_lit]; rfl, .v _⟩) hk
theorem R.indexAg {agg : Bool} {n sz : Nat} {x i : Operand} {cs : List AV} {k : IntKind} {m : Int} {av : AV} (hx : aev E x = some (.ag cs)) (hi : aev E i = some (.v (.int k m))) (h0 : 0 ≤ m) (hn : m < n)
    (hv : (if agg then (if m.toNat * sz + sz ≤ cs.length then some (.ag ((cs.drop (m.toNat * sz)).take sz)) else none) else cs[m.toNat * sz]?) = some av)
    (hk : K av h) : ROpS P c (.indexAg agg n sz x i) E h K :=
  ROpS.of_pure (fun oo ho h' => AOp.value fun ρ w hops hr => by
    have hres := resOp_sound ho
    generalize hop : oo.op = op' at hres hops
    cases hres with
    | indexAg t e _ _ _ _ _ h1 h2 h3 =>
      have e1 := hops x (by simp [Op.operands]) _ hx
      have e2 := (hops i (by simp [Op.operands]) _ hi).inv_v
      generalize hux : ρ x = ux at e1
      cases e1 with
      | ag _ vs g =>
        cases agg with
        | true =>
          simp only [if_true] at hv
          split at hv
          · rename_i hle
            simp only [Option.some.injEq] at hv
            subst hv
            refine ⟨.agg (vs.extract (m.toNat * sz) (m.toNat * sz + sz)), ?_, .ag _ _ ?_⟩
            · simp only [execOp, hop, Instr.index, Sem.run_bind, hux, e2, asIntOf, run_underlying h1, Result.andThen_ok, Sem.run_pure, if_pos (And.intro h0 hn), run_sizeOf' h2, run_part h3 h2 vs (m.toNat * sz) w (v := .agg (vs.extract (m.toNat * sz) (m.toNat * sz + sz))) (by simp)]
            · have := (g.drop (m.toNat * sz)).take sz
              rw [Array.toList_extract, List.extract_eq_take_drop]
              simpa using this
          · cases hv
        | false =>
          simp only [Bool.false_eq_true, if_false] at hv
          obtain ⟨u, hu, hr'⟩ := g.get hv
          refine ⟨u, ?_, hr'⟩
          simp only [execOp, hop, Instr.index, Sem.run_bind, hux, e2, asIntOf, run_underlying h1, Result.andThen_ok, Sem.run_pure, if_pos (And.intro h0 hn), run_sizeOf' h2, run_part h3 h2 vs (m.toNat * sz) w (v := u) (by simpa using hu)]) hk
theorem ext_next : (Extern.allNextRows.lookup "internal/bytealg.abigen_runtime_cmpstring").isNone = true := by kernel_rfl
theorem ext_next0 : (Extern.allNextRows.lookup "").isNone = true := by kernel_rfl
theorem ext_gen : (Extern.allGenericRows.lookup "internal/bytealg.abigen_runtime_cmpstring").isNone = true := by kernel_rfl
theorem ext_typed : (Extern.allTypedRows.lookup "internal/bytealg.abigen_runtime_cmpstring").isNone = true := by kernel_rfl
theorem ext_row : Extern.allRows.lookup "internal/bytealg.abigen_runtime_cmpstring" = some Extern.BytealgCompare.compare := by kernel_rfl
theorem run_cmpCallee {f : FuncId} (hp : cmpCallee P f = true) (a b : ByteArray) (w : World) :
    (callFunc f #[.string a, .string b]).run P w = .ok (.value (.int .i64 (Lib.compareBytes a.data.toList b.data.toList))) w := by
  unfold cmpCallee at hp
  cases hf : P.funcs[f]? with
  | none => simp [hf] at hp
  | some fn =>
    simp only [hf, Option.any_some, Bool.and_eq_true, beq_iff_eq] at hp
    obtain ⟨⟨h1, h2⟩, h3⟩ := hp
    have n1 := Option.isNone_iff_eq_none.1 ext_next
    have n2 := Option.isNone_iff_eq_none.1 ext_next0
    have n3 := Option.isNone_iff_eq_none.1 ext_gen
    have n4 := Option.isNone_iff_eq_none.1 ext_typed
    have hn : Extern.findNext fn = none := by simp [Extern.findNext, h2, h3, n1, n2]
    have he : Extern.find fn = some Extern.BytealgCompare.compare := by simp [Extern.find, h2, n3, n4, ext_row]
    rw [run_callFunc_extern hf (by rw [h2]; decide) h1 hn he, Lib.run_compareString]
    rfl
theorem R.cmpStr {x y : Operand} {a b : ByteArray} (hx : aev E x = some (.v (.string a))) (hy : aev E y = some (.v (.string b))) (hk : K (.v (.int .i64 (Lib.compareBytes a.data.toList b.data.toList))) h) : ROpS P c (.cmpStr x y) E h K :=
  ROpS.of_pure (fun oo ho h' => AOp.value fun ρ w hops hr => by
    have hres := resOp_sound ho
    generalize hop : oo.op = op' at hres hops
    cases hres with
    | cmpStr cl f _ _ g1 g2 g3 g4 =>
      have hf := (hops (.func f) (by simp [Op.operands, Call.operands, g1]) _ rfl).inv_v
      have e1 := (hops x (by simp [Op.operands, Call.operands, g1, g4]) _ hx).inv_v
      have e2 := (hops y (by simp [Op.operands, Call.operands, g1, g4]) _ hy).inv_v
      refine ⟨.int .i64 (Lib.compareBytes a.data.toList b.data.toList), ?_, .v _⟩
      have hmap : cl.args.map ρ = #[.string a, .string b] := by rw [g4]; simp [e1, e2]
      simp only [execOp, hop, resolve, g1, Sem.run_bind, hf, Deferred.ofValue, Sem.run_pure, Result.andThen_ok, invoke, Array.append_empty, Array.empty_append, hmap, run_cmpCallee g3]) hk
theorem extb_next : (Extern.allNextRows.lookup "internal/bytealg.Compare").isNone = true := by kernel_rfl
theorem extb_gen : (Extern.allGenericRows.lookup "internal/bytealg.Compare").isNone = true := by kernel_rfl
theorem extb_typed : (Extern.allTypedRows.lookup "internal/bytealg.Compare").isNone = true := by kernel_rfl
theorem extb_row : Extern.allRows.lookup "internal/bytealg.Compare" = some Extern.BytealgCompare.compare := by kernel_rfl
theorem run_bytesOf {st : Store} {w : World} {l : List UInt8} {cc : Cap} {u : Value} (hle : ∀ a v, st a = some v → w.cell? a = some v) (hv : VRel st (.sl 1 (byteCells l) cc) u) :
    (Extern.Bytes.bytesOf u).run P w = .ok ⟨l.toArray⟩ w := by
  generalize hbc : byteCells l = bc at hv
  cases hv with
  | nil _ _ a =>
    have : l = [] := by cases l <;> simp_all [byteCells]
    subst this
    cases a <;> simp [Extern.Bytes.bytesOf, Extern.Bytes.loadBytes] <;> rfl
  | sl _ _ _ b off cap vs g1 g2 g3 g4 g5 g6 =>
    subst hbc
    rw [byteCells_flatten] at g1
    have hvs : vs = l.map fun b => Value.int .u8 b.toNat := by
      have : (l.map fun b => AV.v (.int .u8 b.toNat)) = (l.map fun b => Value.int .u8 b.toNat).map AV.v := by simp
      rw [this] at g1
      exact g1.atoms
    have hl : (byteCells l).length = l.length := by simp [byteCells]
    simp only [Extern.Bytes.bytesOf, hl]
    have := Lib.run_loadBytesX (P := P) w (l.map fun b => ((b.toNat : Nat) : Int)) ⟨b, off, none⟩ .empty (fun j x hx => by
      rw [Addr.add_lit]
      rw [List.getElem?_map, Option.map_eq_some_iff] at hx
      obtain ⟨y, hy, rfl⟩ := hx
      exact hle _ _ (g2 j _ (by rw [hvs, List.getElem?_map, hy]; rfl)))
    rw [List.length_map] at this
    rw [this]
    congr 1
    simp only [Lib.bytesOf, List.map_map]
    have e : (l.map ((fun n : Int => n.toNat.toUInt8) ∘ fun b : UInt8 => ((b.toNat : Nat) : Int))) = l := by
      conv => rhs; rw [← List.map_id l]
      apply List.map_congr_left
      intro b _
      simp
    first
      | (rw [e]; simp; done)
      | (simp [e]; done)
      | simp_all
theorem run_cmpSlCallee {f : FuncId} (hp : cmpSlCallee P f = true) {u v : Value} {a b : List UInt8} {w : World} (hu : (Extern.Bytes.bytesOf u).run P w = .ok ⟨a.toArray⟩ w) (hv : (Extern.Bytes.bytesOf v).run P w = .ok ⟨b.toArray⟩ w) :
    (callFunc f #[u, v]).run P w = .ok (.value (.int .i64 (Lib.compareBytes a b))) w := by
  unfold cmpSlCallee at hp
  cases hf : P.funcs[f]? with
  | none => simp [hf] at hp
  | some fn =>
    simp only [hf, Option.any_some, Bool.and_eq_true, beq_iff_eq] at hp
    obtain ⟨⟨h1, h2⟩, h3⟩ := hp
    have n1 := Option.isNone_iff_eq_none.1 extb_next
    have n2 := Option.isNone_iff_eq_none.1 ext_next0
    have n3 := Option.isNone_iff_eq_none.1 extb_gen
    have n4 := Option.isNone_iff_eq_none.1 extb_typed
    have hn : Extern.findNext fn = none := by simp [Extern.findNext, h2, h3, n1, n2]
    have he : Extern.find fn = some Extern.BytealgCompare.compare := by simp [Extern.find, h2, n3, n4, extb_row]
    rw [run_callFunc_extern hf (by rw [h2]; decide) h1 hn he]
    have hc : (Extern.BytealgCompare.compare #[u, v]).run P w = .ok (.int .i64 (Lib.compareBytes a b)) w := by
      change Sem.run P (do pure (goInt (Extern.BytealgCompare.cmp (← Extern.Bytes.bytesOf u) (← Extern.Bytes.bytesOf v)))) w = _
      simp only [Sem.run_bind, hu, hv, Result.andThen_ok, Sem.run_pure, Lib.cmp_eq]
      rfl
    rw [hc]
    rfl
theorem R.cmpSl {x y : Operand} {a b : List UInt8} {ca cb : Cap} (hx : aev E x = some (.sl 1 (byteCells a) ca)) (hy : aev E y = some (.sl 1 (byteCells b) cb)) (hk : K (.v (.int .i64 (Lib.compareBytes a b))) h) : ROpS P c (.cmpSl x y) E h K :=
  ROpS.of_pure (fun oo ho h' => AOp.value fun ρ w hops hr => by
    have hres := resOp_sound ho
    generalize hop : oo.op = op' at hres hops
    cases hres with
    | cmpSl cl f _ _ g1 g2 g3 g4 =>
      have hf := (hops (.func f) (by simp [Op.operands, Call.operands, g1]) _ rfl).inv_v
      have e1 := run_bytesOf (P := P) (w := w) (fun a v => stab_cell) (hops x (by simp [Op.operands, Call.operands, g1, g4]) _ hx)
      have e2 := run_bytesOf (P := P) (w := w) (fun a v => stab_cell) (hops y (by simp [Op.operands, Call.operands, g1, g4]) _ hy)
      refine ⟨.int .i64 (Lib.compareBytes a b), ?_, .v _⟩
      have hmap : cl.args.map ρ = #[ρ x, ρ y] := by rw [g4]; simp
      simp only [execOp, hop, resolve, g1, Sem.run_bind, hf, Deferred.ofValue, Sem.run_pure, Result.andThen_ok, invoke, Array.append_empty, Array.empty_append, hmap, run_cmpSlCallee g3 e1 e2]) hk
end
end Go.Av
