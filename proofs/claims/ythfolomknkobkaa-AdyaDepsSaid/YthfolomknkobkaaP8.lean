/-
  AdyaDeps answers true for every history
-/
import Derived.Test.YthfolomknkobkaaP7
set_option linter.unusedVariables false
namespace Go.Av
section
variable {P : Program} {c : Cls} {E : AEnv} {h : AHeap} {K : AV → AHeap → Prop}
theorem brel_box {st : Store} {cs : List AV} {c : Array Value} {t : TypeId} (hv : VRels st cs c.toList) : BRel st (.box cs) (.cells c t) := ⟨c, t, rfl, hv⟩
theorem R.alloc {zero : List Value} (hc : c = .act) (hk : ∀ b, h b = none → K (.v (.pointer (some ⟨b, 0, none⟩))) (h.set b (.box (zero.map .v)))) : ROpS P c (.alloc zero) E h K := by
  subst hc
  intro o ho
  refine AOp.act fun ρ w hops hr => ?_
  have hres := resOp_sound ho
  generalize hop : o.op = op' at hres hops
  cases hres with
  | alloc t z hz =>
    refine ⟨.pointer (some ⟨w.heap.size, 0, none⟩), w.alloc (.cells z.cells t), .v _, _, ?_, hk w.heap.size hr.fresh, .v _, hr.alloc_own (brel_box (VRels.map_v _)), .alloc hr fun x hx => AHeap.set_other _ _ hx⟩
    simp only [execOp, hop, Instr.alloc, Sem.run_bind, run_zeroValue' hz, Result.andThen_ok, newVar, newRow]
    simp
theorem R.box {x : Operand} {av : AV} {cs : List AV} (hc : c = .act) (hx : aev E x = some av) (hcs : av.cells? = some cs) (hk : ∀ b, h b = none → K (.v (.pointer (some ⟨b, 0, none⟩))) (h.set b (.box cs))) : ROpS P c (.box x) E h K := by
  subst hc
  intro o ho
  refine AOp.act fun ρ w hops hr => ?_
  have hres := resOp_sound ho
  generalize hop : o.op = op' at hres hops
  cases hres with
  | box t _ =>
    have e1 := hops x (by simp [Op.operands]) _ hx
    refine ⟨.pointer (some ⟨w.heap.size, 0, none⟩), w.alloc (.cells (ρ x).cells t), .v _, _, ?_, hk w.heap.size hr.fresh, .v _, hr.alloc_own (brel_box (e1.cells? hcs).1), .alloc hr fun x hx => AHeap.set_other _ _ hx⟩
    simp only [execOp, hop, Instr.box, Sem.run_bind, newVar, newRow]
    simp
theorem run_loadVar' {t : TypeId} {a : Bool} {s : Nat} (ha : aggOf P t = some a) (hs : szOf P t = some s) {b off : Nat} {vs : List Value} {w : World} (hl : s ≤ vs.length) (hh : ∀ i u, vs[i]? = some u → w.cell? ⟨b, off + i, none⟩ = some u) {v : Value}
    (hv : if a then v = .agg (vs.take s).toArray else vs[0]? = some v) : (loadVar t ⟨b, off, none⟩).run P w = .ok v w := by
  simp only [loadVar, Sem.run_bind, run_isAgg ha, Result.andThen_ok]
  cases a with
  | true =>
    simp at hv
    subst hv
    have hl' : (vs.take s).length = s := by simp; omega
    have := run_loadCells_list (P := P) w ⟨b, off, none⟩ (vs.take s) (fun j v hv => by
      rw [Addr.add_lit]
      rw [List.getElem?_take] at hv
      split at hv
      · exact hh j v hv
      · cases hv)
    rw [hl'] at this
    simp only [if_true, Sem.run_bind, run_sizeOf' hs, Result.andThen_ok, this, Sem.run_pure]
  | false =>
    simp at hv
    have hc := hh 0 v (by simpa using hv)
    simp only [Nat.add_zero] at hc
    simp [load, Sem.run, hc]
def loadAV (agg : Bool) (sz : Nat) (cs : List AV) : Option AV :=
  if agg then (if sz ≤ cs.length then some (.ag (cs.take sz)) else none) else if sz = 1 then cs[0]? else none
theorem load_rel {t : TypeId} {a : Bool} {s : Nat} (ha : aggOf P t = some a) (hs : szOf P t = some s) {b off : Nat} {cs : List AV} {vs : List Value} {w : World} {st : Store} (hv : VRels st cs vs) (hh : ∀ i u, vs[i]? = some u → w.cell? ⟨b, off + i, none⟩ = some u) {av : AV}
    (hav : loadAV a s cs = some av) : ∃ u, (loadVar t ⟨b, off, none⟩).run P w = .ok u w ∧ VRel st av u := by
  unfold loadAV at hav
  have hlen := hv.length
  cases a with
  | true =>
    simp only [if_true] at hav
    split at hav
    · simp only [Option.some.injEq] at hav
      subst hav
      refine ⟨.agg (vs.take s).toArray, run_loadVar' ha hs (by omega) hh (by simp), .ag _ _ ?_⟩
      simpa using hv.take s
    · cases hav
  | false =>
    simp only [Bool.false_eq_true, if_false] at hav
    split at hav
    · rename_i h1
      obtain ⟨u, hu, hr⟩ := hv.get hav
      have hl : s ≤ vs.length := by
        have := (List.getElem?_eq_some_iff.1 hu).1
        omega
      exact ⟨u, run_loadVar' ha hs hl hh (by simpa using hu), hr⟩
    · cases hav
theorem R.loadR {agg : Bool} {sz : Nat} {x : Operand} {cs : List AV} {av : AV} (hx : aev E x = some (.rp cs)) (hav : loadAV agg sz cs = some av) (hk : K av h) : ROpS P c (.load agg sz x) E h K :=
  ROpS.of_pure (fun oo ho h' => AOp.value fun ρ w hops hr => by
    have hres := resOp_sound ho
    generalize hop : oo.op = op' at hres hops
    cases hres with
    | load t _ a s ha hs =>
      have e1 := hops x (by simp [Op.operands]) _ hx
      generalize hux : ρ x = ux at e1
      cases e1 with
      | rp _ b off vs g1 g2 =>
        obtain ⟨u, h1, h2⟩ := load_rel ha hs g1 (fun i u hi => stab_cell (g2 i u hi)) hav
        exact ⟨u, by simp only [execOp, hop, Instr.loadAt, Sem.run_bind, hux, Instr.sureAddr, Sem.run_pure, Result.andThen_ok, h1], h2⟩) hk
theorem cell_of_cells {w : World} {b : Nat} {c : Array Value} {t : TypeId} {fr : Nat × Nat} (hb : w.heap[b]? = some (.cells c t fr)) (i : Nat) : w.cell? ⟨b, i, none⟩ = c[i]? := by simp [World.cell?, hb]
theorem R.load {agg : Bool} {sz : Nat} {x : Operand} {b off : Nat} {cs : List AV} {av : AV} (hc : c ≠ .pure) (hx : aev E x = some (.v (.pointer (some ⟨b, off, none⟩)))) (hb : h b = some (.box cs)) (hav : loadAV agg sz (cs.drop off) = some av) (hk : K av h) : ROpS P c (.load agg sz x) E h K :=
  ROpS.of_read hc (fun oo ho => AOp.value fun ρ w hops hr => by
    have hres := resOp_sound ho
    generalize hop : oo.op = op' at hres hops
    cases hres with
    | load t _ a s ha hs =>
      have e1 := (hops x (by simp [Op.operands]) _ hx).inv_v
      obtain ⟨y, hy, cc, ty, rfl, hv⟩ := hr b _ hb
      obtain ⟨u, h1, h2⟩ := load_rel ha hs (b := b) (off := off) (w := w) (hv.drop off) (fun i u hi => by
        rw [cell_of_cells hy]
        rw [List.getElem?_drop] at hi
        simpa using hi) hav
      exact ⟨u, by simp only [execOp, hop, Instr.loadAt, Sem.run_bind, e1, Instr.sureAddr, Sem.run_pure, Result.andThen_ok, h1], h2⟩) hk
def over (cs : List AV) (off : Nat) (xs : List AV) : List AV := cs.take off ++ xs ++ cs.drop (off + xs.length)
theorem setRow_heap_eq {w : World} {g : Nat} {cur new : Array Value} {t : TypeId} {fr : Nat × Nat} (hg : w.heap[g]? = some (.cells cur t fr)) : (w.setRow g new).heap[g]? = some (.cells new t fr) := setRow_heap w g cur new t fr hg
theorem stab_setRow {h : AHeap} {w : World} {g : Nat} {new : Array Value} {o o' : ABlk} (hg : h g = some (.box [])  ∨ ∃ cs, h g = some (.box cs)) (o2 : List AV) : (stab h w).le (stab (h.set g (.box o2)) (w.setRow g new)) := by
  intro a u ha
  by_cases hab : a.block = g
  · rcases hg with hg | ⟨cs, hg⟩ <;> simp [stab, hab, hg] at ha
  · rw [stab_congr (h := h) (w := w) (AHeap.set_other h _ hab) (setRow_other w g a.block new hab)]
    exact ha
theorem Rel.setRow {h : AHeap} {w : World} (hr : Rel h w) {g : Nat} {cs cs' : List AV} {cur new : Array Value} {t : TypeId} (hg : h g = some (.box cs)) (hw : w.heap[g]? = some (.cells cur t (0, 0))) (hv : VRels (stab h w) cs' new.toList) :
    Rel (h.set g (.box cs')) (w.setRow g new) ∧ Evol h w (h.set g (.box cs')) (w.setRow g new) := by
  have hle : (stab h w).le (stab (h.set g (.box cs')) (w.setRow g new)) := stab_setRow (o := .box []) (o' := .box []) (.inr ⟨cs, hg⟩) cs'
  refine ⟨hr.step (b := g) (fun x hx => AHeap.set_other h _ hx) (fun x hx _ => setRow_other w g x new hx) hle (fun o ho => ?_), ?_⟩
  · simp only [AHeap.set_same, Option.some.injEq] at ho
    subst ho
    exact ⟨_, setRow_heap_eq hw, new, t, rfl, hv.mono hle⟩
  · refine ⟨rfl, rfl, rfl, by simp [World.setRow], hle, fun b hb hn => ?_⟩
    have hne : b ≠ g := fun e => by subst e; rw [hg] at hn; cases hn
    exact ⟨by rw [AHeap.set_other h _ hne]; exact hn, setRow_other w g b new hne⟩
theorem R.store {sz : Nat} {x y : Operand} {b off : Nat} {cs : List AV} {av : AV} {xs : List AV} (hc : c = .act) (hx : aev E x = some (.v (.pointer (some ⟨b, off, none⟩)))) (hb : h b = some (.box cs)) (hy : aev E y = some av) (hxs : av.cells? = some xs) (hl : xs.length = sz)
    (hfit : off + sz ≤ cs.length) (hk : K (.v undef) (h.set b (.box (over cs off xs)))) : ROpS P c (.store sz x y) E h K := by
  subst hc
  intro o ho
  refine AOp.skip fun ρ w hops hr => ?_
  have hres := resOp_sound ho
  generalize hop : o.op = op' at hres hops
  cases hres with
  | store t _ _ s hs =>
    have e1 := (hops x (by simp [Op.operands]) _ hx).inv_v
    have e2 := hops y (by simp [Op.operands]) _ hy
    obtain ⟨hv, hone⟩ := e2.cells? hxs
    have hlen := hv.length
    obtain ⟨ob, hob, cc, ty, rfl, hvb⟩ := hr b _ hb
    have hlb := hvb.length
    have hst := run_storeCells_at P b off ty (ρ y).cells.toList 0 cc w hob (by simp at hlb hlen ⊢; omega) hone
    simp only [Nat.add_zero] at hst
    have hnew : VRels (stab h w) (over cs off xs) (cc.toList.take off ++ (ρ y).cells.toList ++ cc.toList.drop (off + (ρ y).cells.toList.length)) := by
      unfold over
      rw [hlen]
      exact ((hvb.take off).append hv).append (hvb.drop _)
    obtain ⟨r1, r2⟩ := hr.setRow hb hob (new := (cc.toList.take off ++ (ρ y).cells.toList ++ cc.toList.drop (off + (ρ y).cells.toList.length)).toArray) (by simpa using hnew)
    refine ⟨_, _, ?_, hk, r1, r2⟩
    have hsz : (ρ y).cells.size = sz := by simp at hlen; omega
    simp only [execOp, hop, Instr.storeAt, Sem.run_bind, e1, Instr.sureAddr, Sem.run_pure, Result.andThen_ok, storeVar, run_sizeOf' hs, hsz]
    simp [hst]
end
end Go.Av
