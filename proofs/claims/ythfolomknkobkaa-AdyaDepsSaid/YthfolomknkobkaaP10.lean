/-
  AdyaDeps answers true for every history
-/
import Derived.Test.YthfolomknkobkaaP9
set_option linter.unusedVariables false
namespace Go.Av
section
variable {P : Program} {c : Cls} {E : AEnv} {h : AHeap} {K : AV → AHeap → Prop}
def srcType (P : Program) (u : TypeId) : Prop := P.underlying u = some .string ∨ ∃ e', P.underlying u = some (.slice e')
theorem run_append_none {t u ty e : TypeId} {i : TypeInfo} (ht : P.underlying t = some (.slice e)) (hu : srcType P u) (hi : P.info? e = some i) (base : Option Addr) (sLen sCap : Nat) (x : Value) (w : World)
    (hlen : (Builtin.lenOf x).run P w = .ok 0 w) (hfirst : (Builtin.firstCells i.size 0 x).run P w = .ok #[] w) (hroom : sLen ≤ sCap) :
    (Builtin.append_ #[t, u] ty #[.slice base sLen sCap, x]).run P w = .ok (.slice base sLen sCap) w := by
  rcases hu with hu | ⟨e', hu⟩ <;> cases base <;> simp [Builtin.append_, run_underlying ht, run_underlying hu, sizeOf, typeInfo, hi, hlen, hroom, hfirst, storeCells]
theorem run_append_fit {t u ty e : TypeId} {i : TypeInfo} (ht : P.underlying t = some (.slice e)) (hu : srcType P u) (hi : P.info? e = some i) (b off sLen sCap n : Nat) (x : Value) (news : List Value) (w : World) (cur : Array Value) (tt : TypeId)
    (hlen : (Builtin.lenOf x).run P w = .ok n w) (hfirst : (Builtin.firstCells i.size n x).run P w = .ok news.toArray w) (hroom : sLen + n ≤ sCap) (hg : w.heap[b]? = some (.cells cur tt (0, 0)))
    (hfit : off + sLen * i.size + news.length ≤ cur.size) (h1 : ∀ v ∈ news, v.oneCell' = true) :
    (Builtin.append_ #[t, u] ty #[.slice (some ⟨b, off, none⟩) sLen sCap, x]).run P w =
      .ok (.slice (some ⟨b, off, none⟩) (sLen + n) sCap) (w.setRow b (cur.toList.take (off + sLen * i.size) ++ news ++ cur.toList.drop (off + sLen * i.size + news.length)).toArray) := by
  have hst := run_storeCells_at P b (off + sLen * i.size) tt news 0 cur w hg (by omega) h1
  simp only [Nat.add_zero] at hst
  rcases hu with hu | ⟨e', hu⟩ <;> simp [Builtin.append_, run_underlying ht, run_underlying hu, sizeOf, typeInfo, hi, hlen, hroom, hfirst, Addr.add_lit, hst]
theorem run_append_new {t u ty e : TypeId} {i : TypeInfo} {z : Value} (ht : P.underlying t = some (.slice e)) (hu : srcType P u) (hi : P.info? e = some i) (hz : i.zero = some z) (base : Option Addr) (sLen sCap n : Nat) (x : Value) (olds news : List Value) (w : World)
    (hlen : (Builtin.lenOf x).run P w = .ok n w) (hold : (Builtin.firstCells i.size sLen (.slice base sLen sCap)).run P w.drew = .ok olds.toArray w.drew) (hfirst : (Builtin.firstCells i.size n x).run P w.drew = .ok news.toArray w.drew)
    (hroom : sCap < sLen + n) (h63 : sLen + n ≤ 9223372036854775807) (hb : (sLen + n) * i.bytes ≤ 140737488355328) :
    (Builtin.append_ #[t, u] ty #[.slice base sLen sCap, x]).run P w =
      .ok (.slice (some ⟨w.heap.size, 0, none⟩) (sLen + n) (grownCap w (sLen + n) sCap e)) (w.drew.alloc (.cells (olds.toArray ++ news.toArray ++ Builtin.zeroCells z.cells (grownCap w (sLen + n) sCap e - (sLen + n))) e)) := by
  have h1 : ¬ sLen + n ≤ sCap := by omega
  have h2 : ¬ (9223372036854775807 < ((sLen : Int) + (n : Int))) := by omega
  have h3 := growslice_fits hroom hb
  have h4 : ¬ (281474976710656 < Builtin.nextslicecap (sLen + n) sCap * i.bytes) := by omega
  rcases hu with hu | ⟨e', hu⟩ <;>
    simp [Builtin.append_, run_underlying ht, run_underlying hu, sizeOf, typeInfo, zeroValue, hi, hz, hlen, h1, h2, h4, Question.forced, hold, hfirst, newRow, grownCap] <;>
    (have hA : (olds ++ news).toArray = olds.toArray ++ news.toArray := by simp
     rw [hA, Array.append_assoc])
theorem stab_del (h : AHeap) (w : World) (b : Nat) : (stab h w).le (stab (h.del b) w) := by
  intro a u ha
  by_cases hab : a.block = b
  · have := stab_cell ha
    simp only [stab]
    rw [hab, AHeap.del_same]
    exact this
  · rw [stab_congr (h := h) (w := w) (AHeap.del_other h hab) rfl]
    exact ha
theorem Rel.del {h : AHeap} {w : World} (hr : Rel h w) (b : Nat) : Rel (h.del b) w :=
  hr.step (b := b) (fun x hx => AHeap.del_other h hx) (fun x _ _ => rfl) (stab_del h w b) (fun o ho => by simp at ho)
theorem Evol.del (h : AHeap) (w : World) (b : Nat) : Evol h w (h.del b) w :=
  ⟨rfl, rfl, rfl, Nat.le_refl _, stab_del h w b, fun x _ hn => ⟨by by_cases hx : x = b <;> simp [AHeap.del, hx, hn], rfl⟩⟩
inductive Own (h₀ : AHeap) : Cap → AHeap → Prop
  | full : Own h₀ .full h₀
  | tok {b u s : Nat} : h₀ b = none → Own h₀ (.tok b u s) (h₀.set b (.grow u s))
theorem Own.drop {h₀ h : AHeap} {c : Cap} (ho : Own h₀ c h) {w : World} (hr : Rel h w) : Rel h₀ w ∧ Evol h w h₀ w := by
  cases ho with
  | full => exact ⟨hr, .refl _ _⟩
  | tok hb =>
    have h1 := hr.del
    rename_i b u s
    have e := AHeap.del_set h₀ b (.grow u s) hb
    exact ⟨by have := h1 b; rwa [e] at this, by have := Evol.del (h₀.set b (.grow u s)) w b; rwa [e] at this⟩
inductive Src (sz : Nat) : AV → List (List AV) → Prop
  | sl (es : List (List AV)) (c : Cap) : Src sz (.sl sz es c) es
  | nil : Src sz (.v (.slice none 0 0)) []
  | str (s : ByteArray) : sz = 1 → Src sz (.v (.string s)) (byteCells s.data.toList)
theorem Src.reads {sz : Nat} {x : AV} {ys : List (List AV)} (hs : Src sz x ys) {st : Store} {u : Value} (hv : VRel st x u) (hone : ∀ e ∈ ys, ∀ a ∈ e, a.one = true) (w : World) (hle : ∀ a v, st a = some v → w.cell? a = some v) :
    ∃ news, (Builtin.lenOf u).run P w = .ok ys.length w ∧ (∀ w' : World, (∀ a v, st a = some v → w'.cell? a = some v) → (Builtin.firstCells sz ys.length u).run P w' = .ok news.toArray w') ∧ VRels st ys.flatten news ∧ (∀ e ∈ ys, e.length = sz) ∧ ∀ v ∈ news, v.oneCell' = true := by
  have ones : ∀ {news : List Value}, VRels st ys.flatten news → ∀ v ∈ news, v.oneCell' = true := by
    intro news hn v hv
    obtain ⟨i, hi, rfl⟩ := List.getElem_of_mem hv
    obtain ⟨a, ha, hr⟩ := hn.get' (i := i) (u := news[i]) (by simp)
    refine hr.one ?_
    have hm := List.mem_of_getElem? ha
    obtain ⟨e, he, hae⟩ := List.mem_flatten.1 hm
    exact hone e he a hae
  cases hs with
  | sl es c =>
    cases hv with
    | nil _ _ a => exact ⟨[], by simp [Builtin.lenOf], fun w' _ => by cases a <;> first | (simp [Builtin.firstCells]; done) | (simp [Builtin.firstCells]; rfl), .nil, by simp, by simp⟩
    | sl _ _ _ b off cap vs g1 g2 g3 g4 g5 g6 =>
      refine ⟨vs, by simp [Builtin.lenOf], fun w' hw' => ?_, g1, g3, ones g1⟩
      have hl : vs.length = ys.length * sz := by rw [← g1.length, flatten_length ys g3]
      exact run_firstCells_some (P := P) w' sz ys.length ⟨b, off, none⟩ ys.length cap vs hl (fun j v hj => by rw [Addr.add_lit]; exact hw' _ _ (g2 j v hj))
  | nil => cases hv; exact ⟨[], by simp [Builtin.lenOf], fun w' _ => by simp [Builtin.firstCells], .nil, by simp, by simp⟩
  | str s h1 =>
    subst h1
    cases hv
    have hlen : (byteCells s.data.toList).length = s.size := by simp [byteCells]
    have hr : VRels st (byteCells s.data.toList).flatten (s.data.toList.map fun b => Value.int .u8 b.toNat) := by
      rw [byteCells_flatten]
      have : (s.data.toList.map fun b => AV.v (.int .u8 b.toNat)) = (s.data.toList.map fun b => Value.int .u8 b.toNat).map AV.v := by simp
      rw [this]; exact VRels.map_v _
    refine ⟨s.data.toList.map fun b => Value.int .u8 b.toNat, by simp [Builtin.lenOf, hlen], fun w' _ => ?_, hr, byteCells_sz _, ones hr⟩
    rw [hlen]
    simp [Builtin.firstCells]
    rw [← List.map_toArray, Array.toArray_toList]
inductive Dst (sz : Nat) : AV → List (List AV) → Cap → Prop
  | sl (es : List (List AV)) (c : Cap) : Dst sz (.sl sz es c) es c
  | nil : Dst sz (.v (.slice none 0 0)) [] .full
theorem run_call_builtin {o : Oper} {cl : Call} {b : Builtin} {x y : Operand} {t u : TypeId} (hop : o.op = .call cl) (h1 : cl.callee = .builtin b) (h2 : cl.args = #[x, y]) (h3 : cl.argTypes = #[t, u]) (hb : b = .append) (ρ : Operand → Value) (w : World) {v : Value} {w' : World}
    (hr : (Builtin.append_ #[t, u] o.type #[ρ x, ρ y]).run P w = .ok v w') : (execOp ρ o).run P w = .ok (.value v) w' := by
  subst hb
  simp only [execOp, hop, resolve, h1, h2, h3, Sem.run_bind, Sem.run_pure, Result.andThen_ok, invoke, builtin, List.map_toArray, List.map_cons, List.map_nil, hr]
theorem Dst.rel {sz : Nat} {d : AV} {xs : List (List AV)} {c0 : Cap} (hd : Dst sz d xs c0) {st : Store} {u : Value} (hv : VRel st d u) : VRel st (.sl sz xs c0) u := by
  cases hd with
  | sl => exact hv
  | nil => cases hv; exact .nil sz .full _ trivial
theorem append_new_val {h : AHeap} {w : World} {sz : Nat} {xs ys : List (List AV)} {olds news : List Value} {e : TypeId} {z : Value} {need cap : Nat} (hr : Rel h w) (h1 : VRels (stab h w) xs.flatten olds) (h2 : VRels (stab h w) ys.flatten news)
    (hx : ∀ e ∈ xs, e.length = sz) (hy : ∀ e ∈ ys, e.length = sz) (hneed : need = xs.length + ys.length) (hcap : need ≤ cap) (hmax : cap ≤ maxLen) (hz : z.cells.size = sz) :
    let o := Obj.cells (olds.toArray ++ news.toArray ++ Builtin.zeroCells z.cells (cap - need)) e
    (∀ u s, u = need * sz → s = cap * sz → VRel (stab (h.set w.heap.size (.grow u s)) (w.alloc o)) (.sl sz (xs ++ ys) (.tok w.heap.size u s)) (.slice (some ⟨w.heap.size, 0, none⟩) need cap) ∧ Rel (h.set w.heap.size (.grow u s)) (w.alloc o) ∧ Evol h w (h.set w.heap.size (.grow u s)) (w.alloc o)) ∧
    (VRel (stab h (w.alloc o)) (.sl sz (xs ++ ys) .ro) (.slice (some ⟨w.heap.size, 0, none⟩) need cap) ∧ Rel h (w.alloc o) ∧ Evol h w h (w.alloc o)) := by
  intro o
  have hall : ∀ e ∈ xs ++ ys, e.length = sz := fun e he => (List.mem_append.1 he).elim (hx e) (hy e)
  have hcells : VRels (stab h w) (xs ++ ys).flatten (olds ++ news) := by rw [List.flatten_append]; exact h1.append h2
  have hlen : (olds ++ news).length = need * sz := by rw [← hcells.length, flatten_length _ hall, List.length_append, hneed]
  have hcell : ∀ i u, (olds ++ news)[i]? = some u → (w.alloc o).cell? ⟨w.heap.size, 0 + i, none⟩ = some u := by
    intro i u hi
    rw [cell_of_cells (heap_alloc_eq w o), Nat.zero_add]
    rw [Array.getElem?_append_left (by have := (List.getElem?_eq_some_iff.1 hi).1; simpa using this)]
    simpa using hi
  have hlenxy : (xs ++ ys).length = need := by simp [hneed]
  constructor
  · intro u s hu hs
    have hev : Evol h w (h.set w.heap.size (.grow u s)) (w.alloc o) := .alloc hr fun x hx => AHeap.set_other _ _ hx
    have hosz : (olds.toArray ++ news.toArray ++ Builtin.zeroCells z.cells (cap - need)).size = s := by
      have : (olds.toArray ++ news.toArray).size = need * sz := by simpa using hlen
      rw [Array.size_append, this, size_zeroCells, hz, hs, ← Nat.add_mul]
      congr 1
      omega
    have hle : u ≤ s := by rw [hu, hs]; exact Nat.mul_le_mul_right _ hcap
    refine ⟨?_, hr.alloc_own ⟨_, _, rfl, hosz, hle⟩, hev⟩
    have := VRel.sl (st := stab (h.set w.heap.size (.grow u s)) (w.alloc o)) sz (xs ++ ys) (.tok w.heap.size u s) w.heap.size 0 cap (olds ++ news) (hcells.mono hev.stab)
      (fun i v hi => by
        have hlt := (List.getElem?_eq_some_iff.1 hi).1
        simp only [stab, AHeap.set_same]
        rw [if_pos (by rw [hu, ← hlen]; omega)]
        exact hcell i v hi) hall (by rw [hlenxy]; exact hcap) hmax (by rw [hlenxy]; simp [Cap.ok, hu, hs])
    rw [hlenxy] at this
    exact this
  · have hev : Evol h w h (w.alloc o) := .alloc hr fun _ _ => rfl
    refine ⟨?_, hr.alloc o, hev⟩
    have := VRel.sl (st := stab h (w.alloc o)) sz (xs ++ ys) .ro w.heap.size 0 cap (olds ++ news) (hcells.mono hev.stab)
      (fun i v hi => by
        simp only [stab, hr.fresh]
        exact hcell i v hi) hall (by rw [hlenxy]; exact hcap) hmax trivial
    rw [hlenxy] at this
    exact this
theorem VRel.toRo {st : Store} {sz : Nat} {es : List (List AV)} {c : Cap} {u : Value} (hv : VRel st (.sl sz es c) u) : VRel st (.sl sz es .ro) u := by
  cases hv with
  | nil => exact .nil sz .ro _ trivial
  | sl _ _ _ b off cap vs g1 g2 g3 g4 g5 g6 => exact .sl sz es .ro b off cap vs g1 g2 g3 g4 g5 trivial
theorem R.appendV {sz bytes : Nat} {zero : List Value} {x y : Operand} {d s : AV} {xs ys : List (List AV)} (hx : aev E x = some d) (hd : Dst sz d xs .full) (hy : aev E y = some s) (hs : Src sz s ys) (hone : ∀ e ∈ ys, ∀ a ∈ e, a.one = true)
    (hlen : xs.length + ys.length ≤ 4611686018427387904) (hroom : (xs.length + ys.length) * bytes ≤ 140737488355328) (hk : K (.sl sz (xs ++ ys) .ro) h) : ROpS P c (.append sz bytes zero x y) E h K :=
  ROpS.of_pure (fun oo ho h' => AOp.value' fun ρ w hops hr => by
    have hres := resOp_sound ho
    generalize hop : oo.op = op' at hres hops
    cases hres with
    | append cl _ _ t u e i z g1 g2 g3 g4 g5 g6 g7 g8 g9 =>
      have e1 := hd.rel (hops x (by simp [Op.operands, Call.operands, g1, g2]) _ hx)
      have e2 := hops y (by simp [Op.operands, Call.operands, g1, g2]) _ hy
      obtain ⟨news, n1, n2, n3, n4, n5⟩ := hs.reads (P := P) e2 hone w (fun a v => stab_cell)
      have hsrc : srcType P u := g5
      have drewle : ∀ a v, stab h' w a = some v → w.drew.cell? a = some v := fun a v ha => by simpa using stab_cell ha
      have hmaxlen : xs.length + ys.length ≤ maxLen := by simp only [maxLen]; omega
      generalize hux : ρ x = ux at e1
      by_cases hys : ys = []
      · subst hys
        simp only [List.length_nil] at n1 n2
        have n2' := n2 w (fun a v => stab_cell)
        have hnews : news = [] := by cases n3; rfl
        subst hnews
        cases e1 with
        | nil _ _ aa =>
          exact ⟨_, w, run_call_builtin hop g1 g2 g3 rfl ρ w (by rw [hux]; exact run_append_none g4 hsrc g6 aa 0 0 (ρ y) w n1 n2' (Nat.le_refl _)), by simpa using VRel.nil (st := stab h' w) i.size .ro _ trivial, hr, .refl _ _⟩
        | sl _ _ _ b off cap vs k1 k2 k3 k4 k5 k6 =>
          exact ⟨_, w, run_call_builtin hop g1 g2 g3 rfl ρ w (by rw [hux]; exact run_append_none g4 hsrc g6 _ _ _ (ρ y) w n1 n2' k4), by simpa using VRel.sl (st := stab h' w) _ xs .ro b off cap vs k1 k2 k3 k4 k5 trivial, hr, .refl _ _⟩
      · have hpos : 0 < ys.length := List.length_pos_iff.2 hys
        cases e1 with
        | nil _ _ aa =>
          have hrun := run_append_new (ty := oo.type) g4 hsrc g6 g7 aa 0 0 ys.length (ρ y) [] news w n1 (by cases aa <;> first | (simp [Builtin.firstCells]; done) | (simp [Builtin.firstCells]; rfl)) (n2 w.drew drewle) (by omega) (by simp at hlen; omega) (by simpa using hroom)
          have hval := (append_new_val (h := h') (w := w.drew) (sz := i.size) (xs := []) (ys := ys) (olds := []) (news := news) (e := e) (z := z) (need := 0 + ys.length) (cap := grownCap w (0 + ys.length) 0 e) hr.drew (by rw [stab_drew]; exact .nil) (by rw [stab_drew]; exact n3) (by simp) n4 (by simp)
            (grownCap_ge w _ _ _) (grownCap_le_maxLen w _ _ _ (by simpa using hmaxlen)) g8).2
          simp only [World.size_drew] at hval
          exact ⟨_, _, run_call_builtin hop g1 g2 g3 rfl ρ w (by rw [hux]; exact hrun), hval.1, hval.2.1, (Evol.drew h' w).trans hval.2.2⟩
        | sl _ _ _ b off cap vs k1 k2 k3 k4 k5 k6 =>
          have hcap : cap = xs.length := k6
          have hl : vs.length = xs.length * i.size := by rw [← k1.length, flatten_length xs k3]
          have hrun := run_append_new (ty := oo.type) g4 hsrc g6 g7 (some ⟨b, off, none⟩) xs.length cap ys.length (ρ y) vs news w n1
            (run_firstCells_some (P := P) w.drew i.size xs.length ⟨b, off, none⟩ xs.length cap vs hl (fun j v hj => by rw [Addr.add_lit]; exact drewle _ _ (k2 j v hj))) (n2 w.drew drewle) (by omega) (by omega) hroom
          have hval := (append_new_val (h := h') (w := w.drew) (sz := i.size) (xs := xs) (ys := ys) (olds := vs) (news := news) (e := e) (z := z) (need := xs.length + ys.length) (cap := grownCap w (xs.length + ys.length) cap e) hr.drew (by rw [stab_drew]; exact k1) (by rw [stab_drew]; exact n3) k3 n4 rfl
            (grownCap_ge w _ _ _) (grownCap_le_maxLen w _ _ _ hmaxlen) g8).2
          simp only [World.size_drew] at hval
          exact ⟨_, _, run_call_builtin hop g1 g2 g3 rfl ρ w (by rw [hux]; exact hrun), hval.1, hval.2.1, (Evol.drew h' w).trans hval.2.2⟩) hk
end
end Go.Av
