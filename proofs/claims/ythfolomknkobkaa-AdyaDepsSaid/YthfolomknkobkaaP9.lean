/-
  AdyaDeps answers true for every history
-/
import Derived.Test.YthfolomknkobkaaP8
import Derived.Room.AppendStr
set_option linter.unusedVariables false
namespace Go.Av
def afill : List AV → List (Nat × Nat × AV) → Option (List AV)
  | cells, [] => some cells
  | cells, (off, sz, x) :: rest =>
    match x.cells? with
    | some cs => if cs.length = sz ∧ off + sz ≤ cells.length then afill (over cells off cs) rest else none
    | none => none
theorem foldl_setIf (off : Nat) : ∀ (vs : List Value) (k : Nat) (cells : Array Value), off + k + vs.length ≤ cells.size →
    ((vs.zipIdx k).foldl (fun cs p => cs.setIfInBounds (off + p.2) p.1) cells).toList = cells.toList.take (off + k) ++ vs ++ cells.toList.drop (off + k + vs.length)
  | [], k, cells, h => by simp
  | v :: vs, k, cells, h => by
    simp only [List.zipIdx_cons, List.foldl_cons]
    rw [foldl_setIf off vs (k + 1) _ (by simp at h ⊢; omega)]
    have := list_seg_step cells.toList (off + k) v vs (by simp at h ⊢; omega)
    simp only [Array.toList_setIfInBounds]
    rw [← Nat.add_assoc] 
    rw [this]
    simp [Nat.add_assoc]
theorem fill_rel {st : Store} (place : Nat → Option (Nat × Nat)) : ∀ (parts : List (Nat × Value)) (aps : List (Nat × Nat × AV)) (cells : Array Value) (acs out : List AV), VRels st acs cells.toList → parts.length = aps.length →
    (∀ (j : Nat) i v off sz x, parts[j]? = some (i, v) → aps[j]? = some (off, sz, x) → place i = some (off, sz) ∧ VRel st x v) → afill acs aps = some out → ∃ cells', Instr.fill place cells parts = some cells' ∧ VRels st out cells'.toList
  | [], [], cells, acs, out, hv, _, _, hf => by
    simp only [afill, Option.some.injEq] at hf
    subst hf
    exact ⟨cells, rfl, hv⟩
  | (i, v) :: parts, (off, sz, x) :: aps, cells, acs, out, hv, hl, hp, hf => by
    simp only [afill] at hf
    split at hf
    · rename_i cs hcs
      split at hf
      · rename_i hfit
        obtain ⟨h1, h2⟩ := hp 0 i v off sz x rfl rfl
        obtain ⟨hvc, _⟩ := h2.cells? hcs
        have hlc := hvc.length
        have hla := hv.length
        simp only [Array.length_toList] at hlc hla
        have hsize : v.cells.size = sz := by omega
        have hfold := foldl_setIf off v.cells.toList 0 cells (by simp; omega)
        simp only [Nat.add_zero] at hfold
        have hrow : (v.cells.zipIdx.foldl (fun cs (p : Value × Nat) => cs.setIfInBounds (off + p.2) p.1) cells).toList = cells.toList.take off ++ v.cells.toList ++ cells.toList.drop (off + v.cells.toList.length) := by
          rw [← hfold, ← Array.foldl_toList, Array.toList_zipIdx]
        obtain ⟨cells', hc1, hc2⟩ := fill_rel place parts aps (v.cells.zipIdx.foldl (fun cs (p : Value × Nat) => cs.setIfInBounds (off + p.2) p.1) cells) (over acs off cs) out
          (by
            rw [hrow]
            unfold over
            have : cs.length = v.cells.toList.length := by simp; omega
            rw [this]
            exact ((hv.take off).append hvc).append (hv.drop _))
          (by simpa using hl) (fun j i v off sz x g1 g2 => hp (j + 1) i v off sz x (by simpa using g1) (by simpa using g2)) hf
        refine ⟨cells', ?_, hc2⟩
        simp only [Instr.fill, h1]
        rw [if_neg (by simp; omega)]
        exact hc1
      · cases hf
    · cases hf
  | [], _ :: _, _, _, _, _, hl, _, _ => by simp at hl
  | _ :: _, [], _, _, _, _, hl, _, _ => by simp at hl
def aparts (E : AEnv) : List (Nat × Nat × Operand) → Option (List (Nat × Nat × AV))
  | [] => some []
  | (off, sz, x) :: rest => match aev E x, aparts E rest with | some av, some l => some ((off, sz, av) :: l) | _, _ => none
theorem aparts_spec {E : AEnv} : ∀ {qs : List (Nat × Nat × Operand)} {aps : List (Nat × Nat × AV)}, aparts E qs = some aps → aps.length = qs.length ∧ ∀ (j : Nat) off sz x, qs[j]? = some (off, sz, x) → ∃ av, aps[j]? = some (off, sz, av) ∧ aev E x = some av
  | [], aps, h => by simp [aparts] at h; subst h; simp
  | (off, sz, x) :: qs, aps, h => by
    simp only [aparts] at h
    split at h
    · rename_i av l h1 h2
      simp only [Option.some.injEq] at h
      subst h
      obtain ⟨g1, g2⟩ := aparts_spec h2
      refine ⟨by simp [g1], fun j off' sz' x' hj => ?_⟩
      cases j with
      | zero => simp at hj; obtain ⟨rfl, rfl, rfl⟩ := hj; exact ⟨av, rfl, h1⟩
      | succ j => simpa using g2 j off' sz' x' (by simpa using hj)
    · cases h
section
variable {P : Program} {c : Cls} {E : AEnv} {h : AHeap} {K : AV → AHeap → Prop}
theorem pickParts_spec {places : List (Nat × Nat)} : ∀ {ps : List (Nat × Operand)} {qs : List (Nat × Nat × Operand)}, pickParts places ps = some qs → qs.length = ps.length ∧
    ∀ (j : Nat) i x, ps[j]? = some (i, x) → ∃ off s, places[i]? = some (off, s) ∧ qs[j]? = some (off, s, x)
  | [], qs, h => by simp [pickParts] at h; subst h; simp
  | (i, x) :: ps, qs, h => by
    simp only [pickParts] at h
    split at h
    · rename_i off s l h1 h2
      simp only [Option.some.injEq] at h
      subst h
      obtain ⟨g1, g2⟩ := pickParts_spec h2
      refine ⟨by simp [g1], fun j i' x' hj => ?_⟩
      cases j with
      | zero => simp at hj; obtain ⟨rfl, rfl⟩ := hj; exact ⟨off, s, h1, rfl⟩
      | succ j => simpa using g2 j i' x' (by simpa using hj)
    · cases h
theorem run_build' {t : TypeId} {ps : Array (Nat × Operand)} {z : Value} {qs : List (Nat × Nat × Operand)} (hz : zeroOf P t = some z) (hq : resParts P t ps.toList = some qs) {ρ : Operand → Value} {st : Store} {aps : List (Nat × Nat × AV)} (ha : aparts E qs = some aps)
    (hops : ∀ p ∈ ps.toList, ∀ av, aev E p.2 = some av → VRel st av (ρ p.2)) {out : List AV} (hf : afill (z.cells.toList.map .v) aps = some out) (w : World) :
    ∃ cells, (Instr.build t (ps.map fun (i, x) => (i, ρ x))).run P w = .ok (.agg cells) w ∧ VRels st out cells.toList := by
  obtain ⟨ga1, ga2⟩ := aparts_spec ha
  unfold zeroOf at hz
  cases hi : P.info? t with
  | none => simp [hi] at hz
  | some it =>
    simp only [hi, Option.bind_some] at hz
    unfold resParts at hq
    split at hq
    · rename_i fs hfs
      split at hq
      · rename_i pl hpl
        obtain ⟨gp1, gp2⟩ := pickParts_spec hq
        obtain ⟨cells, hc1, hc2⟩ := fill_rel (st := st) (pl.toArray[·]?) (ps.map fun (i, x) => (i, ρ x)).toList aps z.cells (z.cells.toList.map .v) out (VRels.map_v _) (by simp [ga1, gp1])
          (fun j i v off sz x h1 h2 => by
            simp only [Array.toList_map, List.getElem?_map, Option.map_eq_some_iff] at h1
            obtain ⟨⟨i', x'⟩, hj, he⟩ := h1
            simp only [Prod.mk.injEq] at he
            obtain ⟨rfl, rfl⟩ := he
            obtain ⟨off', s', hpl', hqj⟩ := gp2 j i' x' hj
            obtain ⟨av, hav, haev⟩ := ga2 j off' s' x' hqj
            rw [hav] at h2
            simp only [Option.some.injEq, Prod.mk.injEq] at h2
            obtain ⟨rfl, rfl, rfl⟩ := h2
            exact ⟨by simpa using hpl', hops (i', x') (List.mem_of_getElem? hj) _ haev⟩) hf
        refine ⟨cells, run_build w t _ cells ?_, hc2⟩
        unfold placesOf at hpl
        simp only [Program.built, hi, hfs, hz, hpl]
        exact hc1
      · cases hq
    · rename_i n e he
      split at hq
      · rename_i s hs
        simp only [Option.some.injEq] at hq
        subst hq
        obtain ⟨cells, hc1, hc2⟩ := fill_rel (st := st) (fun i => some (i * s, s)) (ps.map fun (i, x) => (i, ρ x)).toList aps z.cells (z.cells.toList.map .v) out (VRels.map_v _) (by simp [ga1])
          (fun j i v off sz x h1 h2 => by
            simp only [Array.toList_map, List.getElem?_map, Option.map_eq_some_iff] at h1
            obtain ⟨⟨i', x'⟩, hj, he'⟩ := h1
            simp only [Prod.mk.injEq] at he'
            obtain ⟨rfl, rfl⟩ := he'
            obtain ⟨av, hav, haev⟩ := ga2 j (i' * s) s x' (by simp [hj])
            rw [hav] at h2
            simp only [Option.some.injEq, Prod.mk.injEq] at h2
            obtain ⟨rfl, rfl, rfl⟩ := h2
            exact ⟨rfl, hops (i', x') (List.mem_of_getElem? hj) _ haev⟩) hf
        refine ⟨cells, run_build w t _ cells ?_, hc2⟩
        unfold szOf at hs
        cases hie : P.info? e with
        | none => simp [hie] at hs
        | some ie =>
          simp [hie] at hs
          simp only [Program.built, hi, he, hz, hie, hs]
          exact hc1
      · cases hq
    · cases hq
theorem R.build {zero : List Value} {qs : List (Nat × Nat × Operand)} {aps : List (Nat × Nat × AV)} {out : List AV} (ha : aparts E qs = some aps) (hf : afill (zero.map .v) aps = some out) (hk : K (.ag out) h) : ROpS P c (.build zero qs) E h K :=
  ROpS.of_pure (fun oo ho h' => AOp.value fun ρ w hops hr => by
    have hres := resOp_sound ho
    generalize hop : oo.op = op' at hres hops
    cases hres with
    | build t ps z _ hz hq =>
      obtain ⟨cells, h1, h2⟩ := run_build' hz hq ha (ρ := ρ) (st := stab h' w) (fun p hp av hav => hops p.2 (by simp [Op.operands]; exact ⟨p.1, by simpa using hp⟩) av hav) hf w
      exact ⟨.agg cells, by simp only [execOp, hop, Sem.run_bind, h1, Result.andThen_ok, Sem.run_pure], .ag _ _ h2⟩) hk
def chunks (sz n : Nat) (cells : List AV) : List (List AV) :=
  match n with
  | 0 => []
  | n + 1 => cells.take sz :: chunks sz n (cells.drop sz)
theorem chunks_flatten (sz : Nat) : ∀ (n : Nat) (cells : List AV), cells.length = n * sz → (chunks sz n cells).flatten = cells
  | 0, cells, h => by simp at h; simp [chunks, h]
  | n + 1, cells, h => by
    have := chunks_flatten sz n (cells.drop sz) (by simp [h, Nat.add_mul])
    simp [chunks, this]
theorem chunks_sz (sz : Nat) : ∀ (n : Nat) (cells : List AV), cells.length = n * sz → ∀ e ∈ chunks sz n cells, e.length = sz
  | 0, _, _, e, he => by simp [chunks] at he
  | n + 1, cells, h, e, he => by
    simp only [chunks, List.mem_cons] at he
    rcases he with rfl | he
    · simp [h, Nat.add_mul]
    · exact chunks_sz sz n (cells.drop sz) (by simp [h, Nat.add_mul]) e he
theorem chunks_length (sz : Nat) : ∀ (n : Nat) (cells : List AV), (chunks sz n cells).length = n
  | 0, _ => rfl
  | n + 1, cells => by simp [chunks, chunks_length sz n]
def zeros (zero : List Value) (len : Nat) : List AV := ((List.replicate len zero).flatten).map .v
def slParts (E : AEnv) (sz : Nat) : List (Nat × Operand) → Option (List (Nat × Nat × AV))
  | [] => some []
  | (i, x) :: rest => match aev E x, slParts E sz rest with | some av, some l => some ((i * sz, sz, av) :: l) | _, _ => none
theorem slParts_spec {E : AEnv} {sz : Nat} : ∀ {qs : List (Nat × Operand)} {aps : List (Nat × Nat × AV)}, slParts E sz qs = some aps → aps.length = qs.length ∧ ∀ (j : Nat) i x, qs[j]? = some (i, x) → ∃ av, aps[j]? = some (i * sz, sz, av) ∧ aev E x = some av
  | [], aps, h => by simp [slParts] at h; subst h; simp
  | (i, x) :: qs, aps, h => by
    simp only [slParts] at h
    split at h
    · rename_i av l h1 h2
      simp only [Option.some.injEq] at h
      subst h
      obtain ⟨g1, g2⟩ := slParts_spec h2
      refine ⟨by simp [g1], fun j i' x' hj => ?_⟩
      cases j with
      | zero => simp at hj; obtain ⟨rfl, rfl⟩ := hj; exact ⟨av, rfl, h1⟩
      | succ j => simpa using g2 j i' x' (by simpa using hj)
    · cases h
theorem range_zero_cells (zero : Array Value) : ∀ (len : Nat), ((Array.range (len * zero.size)).map (zero[· % zero.size]!)).toList = (List.replicate len zero.toList).flatten := by
  intro len
  have key : ∀ len, (List.range (len * zero.size)).map (zero[· % zero.size]!) = (List.replicate len zero.toList).flatten := by
    intro len
    induction len with
    | zero => simp
    | succ n ih =>
      rw [Nat.add_mul, Nat.one_mul, List.range_add, List.map_append, ih, List.replicate_succ', List.flatten_append]
      congr 1
      simp only [List.map_map, List.flatten_cons, List.flatten_nil, List.append_nil]
      apply List.ext_getElem
      · simp
      · intro i h1 h2
        have hi : i < zero.size := by simpa using h1
        simp [Nat.add_mul_mod_self_right, Nat.mod_eq_of_lt hi, Nat.add_comm, hi]
  rw [← key len]
  simp
theorem R.buildSl {sz len : Nat} {zero : List Value} {qs : List (Nat × Operand)} {aps : List (Nat × Nat × AV)} {out : List AV} (ha : slParts E sz qs = some aps) (hf : afill (zeros zero len) aps = some out) (hl : out.length = len * sz) (hlen : len ≤ maxLen)
    (hk : K (.sl sz (chunks sz len out) .full) h) : ROpS P c (.buildSl sz zero len qs) E h K :=
  ROpS.of_pure (fun oo ho h' => AOp.value' fun ρ w hops hr => by
    have hres := resOp_sound ho
    generalize hop : oo.op = op' at hres hops
    cases hres with
    | buildSl t e _ _ ps z h1 h2 h3 h4 h5 =>
      obtain ⟨g1, g2⟩ := slParts_spec ha
      have hz0 : ((Array.range (len * sz)).map (z.cells[· % z.cells.size]!)).toList = (List.replicate len z.cells.toList).flatten := by
        rw [← h4]; exact range_zero_cells z.cells len
      obtain ⟨cells, hc1, hc2⟩ := fill_rel (st := stab h' w) (fun i => some (i * sz, sz)) (ps.map fun (i, x) => (i, ρ x)).toList aps ((Array.range (len * sz)).map (z.cells[· % z.cells.size]!)) (zeros z.cells.toList len) out
        (by rw [hz0]; exact VRels.map_v _) (by simp [g1])
        (fun j i v off s x e1 e2 => by
          simp only [Array.toList_map, List.getElem?_map, Option.map_eq_some_iff] at e1
          obtain ⟨⟨i', x'⟩, hj, he'⟩ := e1
          simp only [Prod.mk.injEq] at he'
          obtain ⟨rfl, rfl⟩ := he'
          obtain ⟨av, hav, haev⟩ := g2 j i' x' hj
          rw [hav] at e2
          simp only [Option.some.injEq, Prod.mk.injEq] at e2
          obtain ⟨rfl, rfl, rfl⟩ := e2
          exact ⟨rfl, hops x' (by simp [Op.operands]; exact ⟨i', by simpa using List.mem_of_getElem? hj⟩) _ haev⟩) hf
      refine ⟨.slice (some ⟨w.heap.size, 0, none⟩) len len, w.alloc (.cells cells e), ?_, ?_, hr.alloc _, .alloc hr fun _ _ => rfl⟩
      · by_cases hls : len * sz = 0
        · have e0 : ∀ g : Nat → Value, Array.map g (Array.range (len * sz)) = #[] := fun g => by simp [hls]
          rw [e0] at hc1
          simp only [execOp, hop, Instr.buildSlice, Sem.run_bind, run_underlying h1, Result.andThen_ok, run_sizeOf' h2, if_neg (show ¬ len * sz > 2 ^ 24 by omega), if_pos hls, Sem.run_pure, e0, hc1, newRow]
          simp
        · simp only [execOp, hop, Instr.buildSlice, Sem.run_bind, run_underlying h1, Result.andThen_ok, run_sizeOf' h2, if_neg (show ¬ len * sz > 2 ^ 24 by omega), if_neg hls, run_zeroValue' h3, Sem.run_pure, hc1, newRow]
          simp
      · have hle := stab_alloc (o := Obj.cells cells e) (h' := h') hr fun _ _ => rfl
        have hcl := chunks_length sz len out
        have := VRel.sl (st := stab h' (w.alloc (.cells cells e))) sz (chunks sz len out) .full w.heap.size 0 len cells.toList (by rw [chunks_flatten sz len out hl]; exact hc2.mono hle)
          (by
            intro i u hi
            simp only [stab, hr.fresh]
            rw [cell_of_cells (heap_alloc_eq w _)]
            simpa using hi)
          (chunks_sz sz len out hl) (by rw [hcl]; exact Nat.le_refl _) hlen (by rw [hcl]; rfl)
        rw [hcl] at this
        exact this) hk
end
end Go.Av
