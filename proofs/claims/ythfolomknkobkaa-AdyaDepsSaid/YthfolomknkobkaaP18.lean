/-
  AdyaDeps answers true for every history
-/
import Derived.Test.YthfolomknkobkaaP17
set_option linter.unusedVariables false
namespace Go.Av
section
variable {P : Program} {c : Cls} {E : AEnv} {h : AHeap} {K : AV → AHeap → Prop}
abbrev slAt (b off len cap : Nat) : AV := .v (.slice (some ⟨b, off, none⟩) len cap)
abbrev ptrAt (b off : Nat) : AV := .v (.pointer (some ⟨b, off, none⟩))
theorem R.indexAddrV {sz : Nat} {x i : Operand} {b off len cap : Nat} {k : IntKind} {n : Int} (hx : aev E x = some (slAt b off len cap)) (hi : aev E i = some (.v (.int k n))) (h0 : 0 ≤ n) (hn : n < len) (hk : K (ptrAt b (off + n.toNat * sz)) h) : ROpS P c (.indexAddr sz x i) E h K :=
  ROpS.of_pure (fun oo ho h' => AOp.value fun ρ w hops hr => by
    have hres := resOp_sound ho
    generalize hop : oo.op = op' at hres hops
    cases hres with
    | indexAddr t el _ _ _ h1 h2 =>
      have e1 := (hops x (by simp [Op.operands]) _ hx).inv_v
      have e2 := (hops i (by simp [Op.operands]) _ hi).inv_v
      exact ⟨_, by simp only [execOp, hop, Sem.run_bind, e1, e2, run_indexAt' h1 h2 b off len cap k h0 hn, Result.andThen_ok]; rfl, .v _⟩) hk
theorem run_first_box {w : World} {b off len cap sz : Nat} {cs : List AV} {cc : Array Value} {tt : TypeId} (hw : w.heap[b]? = some (.cells cc tt (0, 0))) (hl : off + len * sz ≤ cc.size) :
    (Builtin.firstCells sz len (.slice (some ⟨b, off, none⟩) len cap)).run P w = .ok ((cc.toList.drop off).take (len * sz)).toArray w :=
  run_firstCells_some (P := P) w sz len ⟨b, off, none⟩ len cap ((cc.toList.drop off).take (len * sz)) (by simp; omega) (fun j v hj => by
    rw [Addr.add_lit, cell_of_cells hw]
    rw [List.getElem?_take] at hj
    split at hj
    · rw [List.getElem?_drop] at hj; simpa using hj
    · cases hj)
theorem any_rel {st : Store} : ∀ (us : List Value), VRels st (List.replicate us.length .any) us
  | [] => .nil
  | u :: us => .cons (.any u) (any_rel us)
theorem append_new_box {w : World} {sz : Nat} {xs ys : List AV} {olds news : List Value} {e : TypeId} {z : Value} {need cap : Nat} (hr : Rel h w) (h1 : VRels (stab h w) xs olds) (h2 : VRels (stab h w) ys news) (hz : z.cells.size = sz) :
    let o := Obj.cells (olds.toArray ++ news.toArray ++ Builtin.zeroCells z.cells (cap - need)) e
    Rel (h.set w.heap.size (.box (xs ++ ys ++ List.replicate ((cap - need) * sz) .any))) (w.alloc o) ∧ Evol h w (h.set w.heap.size (.box (xs ++ ys ++ List.replicate ((cap - need) * sz) .any))) (w.alloc o) := by
  intro o
  have hzl : (Builtin.zeroCells z.cells (cap - need)).toList.length = (cap - need) * sz := by
    have := size_zeroCells z.cells (cap - need)
    simp only [Array.length_toList, this, hz]
  refine ⟨hr.alloc_own (brel_box ?_), .alloc hr fun x hx => AHeap.set_other _ _ hx⟩
  have h3 := any_rel (st := stab h w) (Builtin.zeroCells z.cells (cap - need)).toList
  rw [hzl] at h3
  simpa using (h1.append h2).append h3
theorem R.appendBox {sz bytes : Nat} {zero : List Value} {x y : Operand} {d s : AV} {ys : List (List AV)} (hc : c = .act) (hx : aev E x = some d) (hd : Dst sz d [] .full) (hy : aev E y = some s) (hs : Src sz s ys) (hone : ∀ e ∈ ys, ∀ a ∈ e, a.one = true) (hne : ys ≠ [])
    (hlen : ys.length ≤ 4611686018427387904) (hroom : ys.length * bytes ≤ 140737488355328)
    (hk : ∀ b cap, h b = none → ys.length ≤ cap → cap ≤ maxLen → K (slAt b 0 ys.length cap) (h.set b (.box (ys.flatten ++ List.replicate ((cap - ys.length) * sz) .any)))) : ROpS P c (.append sz bytes zero x y) E h K := by
  subst hc
  intro oo ho
  refine AOp.act fun ρ w hops hr => ?_
  have hres := resOp_sound ho
  generalize hop : oo.op = op' at hres hops
  cases hres with
  | append cl _ _ t u e i z g1 g2 g3 g4 g5 g6 g7 g8 g9 =>
    have e1 := hd.rel (hops x (by simp [Op.operands, Call.operands, g1, g2]) _ hx)
    have e2 := hops y (by simp [Op.operands, Call.operands, g1, g2]) _ hy
    obtain ⟨news, n1, n2, n3, n4, n5⟩ := hs.reads (P := P) e2 hone w (fun a v => stab_cell)
    have hsrc : srcType P u := g5
    have drewle : ∀ a v, stab h w a = some v → w.drew.cell? a = some v := fun a v ha => by simpa using stab_cell ha
    have hpos : 0 < ys.length := List.length_pos_iff.2 hne
    obtain ⟨aa, hux⟩ : ∃ aa, ρ x = .slice aa 0 0 := by
      generalize ρ x = ux at e1
      cases e1 with
      | nil _ _ aa _ => exact ⟨aa, rfl⟩
      | sl _ _ _ b off cap vs k1 k2 k3 k4 k5 k6 =>
        have : cap = 0 := k6
        subst this
        exact ⟨_, rfl⟩
    have hrun := run_append_new (ty := oo.type) g4 hsrc g6 g7 aa 0 0 ys.length (ρ y) [] news w n1 (by cases aa <;> first | (simp [Builtin.firstCells]; done) | (simp [Builtin.firstCells]; rfl)) (n2 w.drew drewle) (by omega) (by omega) (by simpa using hroom)
    obtain ⟨r1, r2⟩ := append_new_box (h := h) (w := w.drew) (sz := i.size) (xs := []) (ys := ys.flatten) (olds := []) (news := news) (e := e) (z := z) (need := 0 + ys.length) (cap := grownCap w (0 + ys.length) 0 e) hr.drew .nil (by rw [stab_drew]; exact n3) g8
    simp only [World.size_drew] at r1 r2
    have hmaxlen : ys.length ≤ maxLen := by simp only [maxLen]; omega
    refine ⟨_, _, _, _, run_call_builtin hop g1 g2 g3 rfl ρ w (by rw [hux]; exact hrun), ?_, .v _, r1, (Evol.drew h w).trans r2⟩
    have hcap : 0 + ys.length ≤ grownCap w (0 + ys.length) 0 e := grownCap_ge w _ _ _
    have := hk w.heap.size (grownCap w (0 + ys.length) 0 e) hr.fresh (by omega) (grownCap_le_maxLen w _ _ _ (by simpa using hmaxlen))
    simpa using this
theorem R.appendOwn {sz bytes : Nat} {zero : List Value} {x y : Operand} {s : AV} {b off len cap : Nat} {cs : List AV} {ys : List (List AV)} (hc : c = .act) (hx : aev E x = some (slAt b off len cap)) (hb : h b = some (.box cs)) (hfit : off + cap * sz ≤ cs.length) (hlc : len ≤ cap)
    (hy : aev E y = some s) (hs : Src sz s ys) (hone : ∀ e ∈ ys, ∀ a ∈ e, a.one = true) (hne : ys ≠ []) (hlen : len + ys.length ≤ 4611686018427387904) (hroom : (len + ys.length) * bytes ≤ 140737488355328)
    (H1 : len + ys.length ≤ cap → K (slAt b off (len + ys.length) cap) (h.set b (.box (over cs (off + len * sz) ys.flatten))))
    (H2 : ∀ b' cap', h b' = none → len + ys.length ≤ cap' → cap' ≤ maxLen → K (slAt b' 0 (len + ys.length) cap') (h.set b' (.box ((cs.drop off).take (len * sz) ++ ys.flatten ++ List.replicate ((cap' - (len + ys.length)) * sz) .any)))) :
    ROpS P c (.append sz bytes zero x y) E h K := by
  subst hc
  intro oo ho
  refine AOp.act fun ρ w hops hr => ?_
  have hres := resOp_sound ho
  generalize hop : oo.op = op' at hres hops
  cases hres with
  | append cl _ _ t u e i z g1 g2 g3 g4 g5 g6 g7 g8 g9 =>
    have hux := (hops x (by simp [Op.operands, Call.operands, g1, g2]) _ hx).inv_v
    have e2 := hops y (by simp [Op.operands, Call.operands, g1, g2]) _ hy
    obtain ⟨news, n1, n2, n3, n4, n5⟩ := hs.reads (P := P) e2 hone w (fun a v => stab_cell)
    have hsrc : srcType P u := g5
    have drewle : ∀ a v, stab h w a = some v → w.drew.cell? a = some v := fun a v ha => by simpa using stab_cell ha
    obtain ⟨ob, hob, cc, tt, rfl, hvb⟩ := hr b _ hb
    have hlb := hvb.length
    have hccs : cc.size = cs.length := by simpa using hlb.symm
    have hnl : news.length = ys.length * i.size := by rw [← n3.length, flatten_length ys n4]
    rcases Nat.lt_or_ge cap (len + ys.length) with hlt | hge
    · have hlsz : len * i.size ≤ cap * i.size := Nat.mul_le_mul_right _ hlc
      have hwd : w.drew.heap[b]? = some (.cells cc tt (0, 0)) := hob
      have hrun := run_append_new (ty := oo.type) g4 hsrc g6 g7 (some ⟨b, off, none⟩) len cap ys.length (ρ y) ((cc.toList.drop off).take (len * i.size)) news w n1
        (run_first_box (cs := cs) hwd (by omega)) (n2 w.drew drewle) hlt (by omega) hroom
      obtain ⟨r1, r2⟩ := append_new_box (h := h) (w := w.drew) (sz := i.size) (xs := (cs.drop off).take (len * i.size)) (ys := ys.flatten) (olds := (cc.toList.drop off).take (len * i.size)) (news := news) (e := e) (z := z) (need := len + ys.length) (cap := grownCap w (len + ys.length) cap e) hr.drew
        (by rw [stab_drew]; exact (hvb.drop _).take _) (by rw [stab_drew]; exact n3) g8
      simp only [World.size_drew] at r1 r2
      have hmaxlen : len + ys.length ≤ maxLen := by simp only [maxLen]; omega
      exact ⟨_, _, _, _, run_call_builtin hop g1 g2 g3 rfl ρ w (by rw [hux]; exact hrun), H2 w.heap.size _ hr.fresh (grownCap_ge w _ _ _) (grownCap_le_maxLen w _ _ _ hmaxlen), .v _, r1, (Evol.drew h w).trans r2⟩
    · have hfit2 : off + len * i.size + news.length ≤ cc.size := by
        have : (len + ys.length) * i.size ≤ cap * i.size := Nat.mul_le_mul_right _ hge
        rw [Nat.add_mul] at this
        omega
      have hrun := run_append_fit (ty := oo.type) g4 hsrc g6 b off len cap ys.length (ρ y) news w cc tt n1 (n2 w (fun a v => stab_cell)) hge hob hfit2 n5
      obtain ⟨r1, r2⟩ := hr.setRow hb hob (cs' := over cs (off + len * i.size) ys.flatten) (new := (cc.toList.take (off + len * i.size) ++ news ++ cc.toList.drop (off + len * i.size + news.length)).toArray) (by
        unfold over
        rw [n3.length]
        simpa using ((hvb.take _).append n3).append (hvb.drop _))
      exact ⟨_, _, _, _, run_call_builtin hop g1 g2 g3 rfl ρ w (by rw [hux]; exact hrun), H1 hge, .v _, r1, r2⟩
end
theorem S.storeS {P : Program} {c : Cls} {E : AEnv} {h : AHeap} {K : AV → AHeap → Prop} {sz : Nat} {x y : Operand} {b off : Nat} {cs : List AV} {av : AV} {xs : List AV} (hc : c = .act) (hx : aev E x = some (.v (.pointer (some ⟨b, off, none⟩)))) (hy : aev E y = some av) (hxs : av.cells? = some xs) (hl : xs.length = sz)
    (hfit : off + sz ≤ cs.length) (hk : K (.v undef) (h.set b (.box (over cs off xs)))) : ROpS P c (.store sz x y) E (h.set b (.box cs)) K :=
  R.store hc hx (AHeap.set_same _ _ _) hy hxs hl hfit (by rw [AHeap.set_set]; exact hk)
theorem AHeap.le.del {h H : AHeap} (hle : h.le H) {b : Nat} (hb : h b = Option.none) : h.le (H.del b) := fun x o e => by
  have hx : x ≠ b := fun e' => by subst e'; rw [hb] at e; cases e
  rw [AHeap.del_other _ hx]
  exact hle x o e
theorem freeze_rel {h : AHeap} {bm br i cap sz : Nat} {cs : List AV} {es : List (List AV)} {sp : List AV} (hm : h bm = some (.box cs)) (hi : cs[i]? = some (slAt br 0 es.length cap)) (hne : br ≠ bm) (hrow : h br = some (.box (es.flatten ++ sp))) (hes : ∀ e ∈ es, e.length = sz)
    (hc : es.length ≤ cap) (hmax : cap ≤ maxLen) (w : World) (hrel : Rel h w) : Rel ((h.del br).set bm (.box (cs.set i (.sl sz es .ro)))) w ∧ Evol h w ((h.del br).set bm (.box (cs.set i (.sl sz es .ro)))) w := by
  have r1 := hrel.del br
  have e1 := Evol.del h w br
  have hm1 : (h.del br) bm = some (.box cs) := by rw [AHeap.del_other _ (Ne.symm hne)]; exact hm
  obtain ⟨x, hx, c, t, rfl, hv⟩ := r1 bm _ hm1
  obtain ⟨y, hy, cc, tt, rfl, hvr⟩ := hrel br _ hrow
  obtain ⟨u, hu, hau⟩ := hv.get hi
  have hu' := hau.inv_v
  subst hu'
  have hvr' := hvr.mono e1.stab
  have hfl : VRels (stab (h.del br) w) es.flatten (cc.toList.take es.flatten.length) := by
    have := hvr'.take es.flatten.length
    rwa [List.take_left] at this
  have hold : holdsAt (stab (h.del br) w) br 0 (cc.toList.take es.flatten.length) := fun j v hj => by
    rw [List.getElem?_take] at hj
    split at hj
    · simp only [stab, AHeap.del_same]
      rw [cell_of_cells hy, Nat.zero_add]
      simpa using hj
    · cases hj
  have hnew := hv.set i (.sl sz es .ro br 0 cap _ hfl hold hes hc hmax trivial)
  have hset : c.toList.set i (.slice (some ⟨br, 0, none⟩) es.length cap) = c.toList := by
    apply List.ext_getElem?
    intro j
    rw [List.getElem?_set]
    split
    · next e => subst e; rw [hu, if_pos (List.getElem?_eq_some_iff.1 hu).1]
    · rfl
  rw [hset] at hnew
  have hle : (stab (h.del br) w).le (stab ((h.del br).set bm (.box (cs.set i (.sl sz es .ro)))) w) := by
    intro a v ha
    by_cases hab : a.block = bm
    · simp [stab, hab, hm1] at ha
    · rw [stab_congr (h := h.del br) (w := w) (AHeap.set_other _ _ hab) rfl]; exact ha
  refine ⟨r1.step (b := bm) (fun x hx => AHeap.set_other _ _ hx) (fun x _ _ => rfl) hle (fun o ho => ?_), e1.trans ⟨rfl, rfl, rfl, Nat.le_refl _, hle, fun x hx hn => ⟨?_, rfl⟩⟩⟩
  · simp only [AHeap.set_same, Option.some.injEq] at ho
    subst ho
    exact ⟨_, hx, c, t, rfl, hnew.mono hle⟩
  · rw [AHeap.set_other]
    · exact hn
    · intro e; subst e; rw [hm1] at hn; cases hn
theorem RRun.freeze {P : Program} {ro : Option Nat} {n : Nat} {E : AEnv} {h : AHeap} {Q : Option Code → AEnv → AHeap → Prop} {k : List RT} {bm br i cap sz : Nat} {cs : List AV} {es : List (List AV)} {sp : List AV} (hm : h bm = some (.box cs)) (hi : cs[i]? = some (slAt br 0 es.length cap)) (hne : br ≠ bm)
    (hrow : h br = some (.box (es.flatten ++ sp))) (hes : ∀ e ∈ es, e.length = sz) (hc : es.length ≤ cap) (hmax : cap ≤ maxLen) (H : RRunG P ro n k E ((h.del br).set bm (.box (cs.set i (.sl sz es .ro)))) Q) : RRunG P ro n k E h Q :=
  RRun.weaken (fun _ _ e => e) (freeze_rel hm hi hne hrow hes hc hmax) H
section
variable {P : Program} {c : Cls} {E : AEnv} {h : AHeap} {K : AV → AHeap → Prop}
theorem R.buildSlO {sz len : Nat} {zero : List Value} {qs : List (Nat × Operand)} {aps : List (Nat × Nat × AV)} {out : List AV} (hc : c = .act) (ha : slParts E sz qs = some aps) (hf : afill (zeros zero len) aps = some out)
    (hk : ∀ b, h b = none → K (slAt b 0 len len) (h.set b (.box out))) : ROpS P c (.buildSl sz zero len qs) E h K := by
  subst hc
  intro oo ho
  refine AOp.act fun ρ w hops hr => ?_
  have hres := resOp_sound ho
  generalize hop : oo.op = op' at hres hops
  cases hres with
  | buildSl t e _ _ ps z h1 h2 h3 h4 h5 =>
    obtain ⟨g1, g2⟩ := slParts_spec ha
    have hz0 : ((Array.range (len * sz)).map (z.cells[· % z.cells.size]!)).toList = (List.replicate len z.cells.toList).flatten := by
      rw [← h4]; exact range_zero_cells z.cells len
    obtain ⟨cells, hc1, hc2⟩ := fill_rel (st := stab h w) (fun i => some (i * sz, sz)) (ps.map fun (i, x) => (i, ρ x)).toList aps ((Array.range (len * sz)).map (z.cells[· % z.cells.size]!)) (zeros z.cells.toList len) out
      (by rw [hz0]; exact VRels.map_v _) (by simp [g1])
      (fun j i v off s x e1 e2 => by
        simp only [Array.toList_map, List.getElem?_map, Option.map_eq_some_iff] at e1
        obtain ⟨⟨i', x'⟩, hj, he'⟩ := e1
        simp only [Prod.mk.injEq] at he'
        obtain ⟨rfl, rfl⟩ := he'
        obtain ⟨av, hav, haev⟩ := g2 j i' x' hj
        rw [hav] at e2
        simp only [Option.some.injEq, Prod.mk.injEq] at e2
        obtain ⟨rfl, rfl, rfl⟩ := e2
        exact ⟨rfl, hops x' (by simp [Op.operands]; exact ⟨i', by simpa using List.mem_of_getElem? hj⟩) _ haev⟩) hf
    refine ⟨.slice (some ⟨w.heap.size, 0, none⟩) len len, w.alloc (.cells cells e), _, _, ?_, hk w.heap.size hr.fresh, .v _, hr.alloc_own (brel_box hc2), .alloc hr fun x hx => AHeap.set_other _ _ hx⟩
    by_cases hls : len * sz = 0
    · have e0 : ∀ g : Nat → Value, Array.map g (Array.range (len * sz)) = #[] := fun g => by simp [hls]
      rw [e0] at hc1
      simp only [execOp, hop, Instr.buildSlice, Sem.run_bind, run_underlying h1, Result.andThen_ok, run_sizeOf' h2, if_neg (show ¬ len * sz > 2 ^ 24 by omega), if_pos hls, Sem.run_pure, e0, hc1, newRow]
      simp
    · simp only [execOp, hop, Instr.buildSlice, Sem.run_bind, run_underlying h1, Result.andThen_ok, run_sizeOf' h2, if_neg (show ¬ len * sz > 2 ^ 24 by omega), if_neg hls, run_zeroValue' h3, Sem.run_pure, hc1, newRow]
      simp
theorem freeze_other {w : World} {a : Addr} {n x : Nat} (hx : x ≠ a.block) : (w.freeze a n).heap[x]? = w.heap[x]? := by
  unfold World.freeze
  split
  · rfl
  · simp [Array.getElem?_modify, Ne.symm hx]
theorem freeze_cell (w : World) (a x : Addr) (n : Nat) : (w.freeze a n).cell? x = w.cell? x := by
  unfold World.freeze
  split
  · rfl
  · simp only [World.cell?, Array.getElem?_modify]
    by_cases h : a.block = x.block
    · rw [if_pos h]
      cases w.heap[x.block]? with
      | none => rfl
      | some o => cases o <;> rfl
    · rw [if_neg h]
theorem R.convSl {x : Operand} {b n : Nat} {cs : List AV} (hc : c = .act) (hx : aev E x = some (slAt b 0 n n)) (hb : h b = some (.box cs)) (hl : cs.length = n) (hmax : n ≤ maxLen) (hk : K (.sl 1 (cs.map fun a => [a]) .ro) (h.del b)) : ROpS P c (.convSl x) E h K := by
  subst hc
  intro oo ho
  refine AOp.act fun ρ w hops hr => ?_
  have hres := resOp_sound ho
  generalize hop : oo.op = op' at hres hops
  cases hres with
  | convLL s e _ h1 h2 =>
    have e1 := (hops x (by simp [Op.operands]) _ hx).inv_v
    obtain ⟨ob, hob, cc, tt, rfl, hv⟩ := hr b _ hb
    have hsh : w.shape? b = some (tt, cc.size) := by simp [World.shape?, hob]
    have hrun : (convert s s (.slice (some ⟨b, 0, none⟩) n n)).run P w = .ok (.slice (some ⟨b, 0, none⟩) n n) (w.freeze ⟨b, cc.size, none⟩ 1) := by
      simp [convert, run_underlying h1, run_underlying h2, markStringish, shape, freeze, Sem.run, hsh]
    have hle : (stab h w).le (stab (h.del b) (w.freeze ⟨b, cc.size, none⟩ 1)) := by
      intro a u ha
      by_cases hab : a.block = b
      · simp [stab, hab, hb] at ha
      · rw [stab_congr (h := h) (w := w) (AHeap.del_other h hab) (freeze_other hab)]; exact ha
    have hfr : ∀ (w : World) (a : Addr) (n : Nat), (w.freeze a n).os = w.os ∧ (w.freeze a n).tape = w.tape ∧ (w.freeze a n).output = w.output := fun w a n => by unfold World.freeze; split <;> exact ⟨rfl, rfl, rfl⟩
    refine ⟨.slice (some ⟨b, 0, none⟩) n n, _, _, _, ?_, hk, ?_, hr.step (b := b) (fun x hx => AHeap.del_other h hx) (fun x hx _ => freeze_other hx) hle (fun o ho => by simp at ho), (hfr _ _ _).1, (hfr _ _ _).2.1, (hfr _ _ _).2.2, ?_, hle, fun k hk' hn => ?_⟩
    · simp only [execOp, hop, e1, Sem.run_bind, hrun, Result.andThen_ok, Sem.run_pure]
    · have hfl : (cs.map fun a => [a]).flatten = cs := by
        clear hv hl hk hb
        induction cs with
        | nil => rfl
        | cons a cs ih => simp [ih]
      have hcl : (cs.map fun a => [a]).length = n := by simp [hl]
      have := VRel.sl (st := stab (h.del b) (w.freeze ⟨b, cc.size, none⟩ 1)) 1 (cs.map fun a => [a]) .ro b 0 n cc.toList (by rw [hfl]; exact hv.mono hle)
        (fun i u hi => by
          simp only [stab, AHeap.del_same]
          rw [freeze_cell, cell_of_cells hob]
          simpa using hi) (fun e he => by simp at he; obtain ⟨a, _, rfl⟩ := he; rfl) (by rw [hcl]; exact Nat.le_refl _) hmax trivial
      rw [hcl] at this
      exact this
    · unfold World.freeze; split <;> simp
    · have hne : k ≠ b := fun e => by subst e; rw [hb] at hn; cases hn
      exact ⟨by rw [AHeap.del_other _ hne]; exact hn, freeze_other hne⟩
end
end Go.Av
