/-
  AdyaDeps answers true for every history
-/
import Derived.Test.YthfolomknkobkaaP17
import Derived.WideKeyEntry
import Derived.MapKept
import Derived.ChangeMaps3
set_option linter.unusedVariables false
namespace Go.Av
open Go.WideMaps
section
variable {P : Program} {c : Cls} {E : AEnv} {h : AHeap} {K : AV → AHeap → Prop}
theorem R.makeMap (hc : c = .act) (hk : ∀ b, h b = none → K (.v (.map (some b))) (h.set b (.map []))) : ROpS P c .makeMap E h K := by
  subst hc
  intro o ho
  refine AOp.act fun ρ w hops hr => ?_
  have hres := resOp_sound ho
  generalize hop : o.op = op' at hres hops
  cases hres with
  | makeMap t =>
    refine ⟨.map (some w.heap.size), w.alloc (.map #[] 0), .v _, _, ?_, hk w.heap.size hr.fresh, .v _, hr.alloc_own ⟨#[], 0, rfl, rfl, .nil, by simp, by simp⟩, .alloc hr fun x hx => AHeap.set_other _ _ hx⟩
    simp only [execOp, hop, Sem.run_bind]
    rfl
theorem map_at {w : World} (hr : Rel h w) {b : Nat} {ents : List (Value × AV)} (hb : h b = some (.map ents)) : ∃ es clock, w.heap[b]? = some (.map es clock) ∧ es.toList.map (·.key) = ents.map (·.1) ∧ VRels (stab h w) (ents.map (·.2)) (es.toList.map (·.val)) ∧ (es.toList.map (·.born)).Nodup ∧ ∀ e ∈ es.toList, e.born < clock := by
  obtain ⟨y, hy, es, clock, rfl, h1, h2, h3, h4⟩ := hr b _ hb
  exact ⟨es, clock, hy, h1, h2, h3, h4⟩
theorem ents_at {es : List MapEntry} {ents : List (Value × AV)} (h1 : es.map (·.key) = ents.map (·.1)) {j : Nat} {e : MapEntry} (he : es[j]? = some e) : ∃ a, ents[j]? = some (e.key, a) := by
  have h2 : (es.map (·.key))[j]? = some e.key := by rw [List.getElem?_map, he]; rfl
  rw [h1, List.getElem?_map, Option.map_eq_some_iff] at h2
  obtain ⟨p, hp, hpe⟩ := h2
  exact ⟨p.2, by rw [hp, ← hpe]⟩
structure KeyR (P : Program) (k : TypeId) (S : Value → Prop) : Prop where
  check : ∀ (w : World) (em : Bool) {v : Value}, S v → (Instr.checkKey em 10000 k v).run P w = .ok () w
  find : ∀ (w : World) {x : Value}, S x → ∀ es : List MapEntry, (∀ e ∈ es, S e.key) →
    ((Instr.findKey k x es).run P w = .ok none w ∧ ∀ e ∈ es, e.key ≠ x) ∨ ∃ j e, (Instr.findKey k x es).run P w = .ok (some (j, e.val)) w ∧ es[j]? = some e ∧ e.key = x
  stays : ∀ (w : World) {v : Value}, S v → (Instr.keyThatStays v v).run P w = .ok v w
theorem KeyR.of_law {P : Program} {k : TypeId} (KL : KeyLaw P k) : KeyR P k (fun v => ∃ l, keyOf P k v = some l) :=
  ⟨fun w em {v} ⟨l, h⟩ => KL.check w em h, fun w {x} ⟨l, h⟩ es he => KL.find w h es he, fun w {v} ⟨l, h⟩ => KL.stays w h⟩
def intKey (kd : IntKind) (v : Value) : Prop := ∃ n, v = .int kd n
theorem findNow_int {kd : IntKind} {n : Int} : ∀ (es : List MapEntry) (i : Nat), (∀ e ∈ es, intKey kd e.key) →
    (Instr.findNow (.int kd) (.int kd n) es i = some none ∧ ∀ e ∈ es, e.key ≠ .int kd n) ∨ ∃ j e, Instr.findNow (.int kd) (.int kd n) es i = some (some (i + j, e.val)) ∧ es[j]? = some e ∧ e.key = .int kd n
  | [], i, _ => .inl ⟨rfl, by simp⟩
  | e :: es, i, h => by
    obtain ⟨m, hm⟩ := h e (by simp)
    by_cases hnm : n = m
    · subst hnm
      refine .inr ⟨0, e, ?_, rfl, hm⟩
      simp [Instr.findNow, hm, Instr.sameNow]
    · have hb : (n == m) = false := by simpa using hnm
      rcases findNow_int (n := n) es (i + 1) (fun e he => h e (by simp [he])) with ⟨h1, h2⟩ | ⟨j, e', h1, h2, h3⟩
      · refine .inl ⟨by simp [Instr.findNow, hm, Instr.sameNow, hb, h1], fun e' he' => ?_⟩
        rcases List.mem_cons.1 he' with rfl | he'
        · rw [hm]; intro e; injection e with _ e; exact hnm e.symm
        · exact h2 e' he'
      · exact .inr ⟨j + 1, e', by simp [Instr.findNow, hm, Instr.sameNow, hb, h1]; omega, by simpa using h2, h3⟩
theorem KeyR.int {P : Program} {k : TypeId} {kd : IntKind} (ht : P.underlying k = some (.int kd)) : KeyR P k (intKey kd) where
  check := fun w em {v} ⟨n, h⟩ => by
    subst h
    show (Instr.checkKey em (9999 + 1) k _).run P w = _
    rw [Instr.checkKey]
    simp only [Sem.run_bind, run_underlying ht, Result.andThen_ok]
    rfl
  find := fun w {x} ⟨n, h⟩ es he => by
    subst h
    rcases findNow_int (n := n) es 0 he with ⟨h1, h2⟩ | ⟨j, e, h1, h2, h3⟩
    · exact .inl ⟨MapKept.run_findKey ht h1, h2⟩
    · exact .inr ⟨j, e, by rw [MapKept.run_findKey ht h1, Nat.zero_add], h2, h3⟩
  stays := fun w {v} ⟨n, h⟩ => by subst h; simp [Instr.keyThatStays, Instr.sameBits]
theorem beq_bytes (a b : ByteArray) : (a == b) = decide (a = b) := by
  by_cases h : a = b
  · subst h
    rw [decide_eq_true rfl]
    show (a.data == a.data) = true
    simp
  · rw [decide_eq_false h]
    show (a.data == b.data) = false
    have : a.data ≠ b.data := fun e => h (by cases a; cases b; simp_all)
    simpa using this
def strKey (v : Value) : Prop := ∃ s, v = .string s
theorem findNow_str {n : ByteArray} : ∀ (es : List MapEntry) (i : Nat), (∀ e ∈ es, strKey e.key) →
    (Instr.findNow .string (.string n) es i = some none ∧ ∀ e ∈ es, e.key ≠ .string n) ∨ ∃ j e, Instr.findNow .string (.string n) es i = some (some (i + j, e.val)) ∧ es[j]? = some e ∧ e.key = .string n
  | [], i, _ => .inl ⟨rfl, by simp⟩
  | e :: es, i, h => by
    obtain ⟨m, hm⟩ := h e (by simp)
    by_cases hnm : n = m
    · subst hnm
      refine .inr ⟨0, e, ?_, rfl, hm⟩
      simp [Instr.findNow, hm, Instr.sameNow, beq_bytes]
    · have hb : (n == m) = false := by rw [beq_bytes]; simpa using hnm
      rcases findNow_str (n := n) es (i + 1) (fun e he => h e (by simp [he])) with ⟨h1, h2⟩ | ⟨j, e', h1, h2, h3⟩
      · refine .inl ⟨by simp [Instr.findNow, hm, Instr.sameNow, hb, h1], fun e' he' => ?_⟩
        rcases List.mem_cons.1 he' with rfl | he'
        · rw [hm]; intro e; injection e with e; exact hnm e.symm
        · exact h2 e' he'
      · exact .inr ⟨j + 1, e', by simp [Instr.findNow, hm, Instr.sameNow, hb, h1]; omega, by simpa using h2, h3⟩
theorem KeyR.str {P : Program} {k : TypeId} (ht : P.underlying k = some .string) : KeyR P k strKey where
  check := fun w em {v} ⟨n, h⟩ => by
    subst h
    show (Instr.checkKey em (9999 + 1) k _).run P w = _
    rw [Instr.checkKey]
    simp only [Sem.run_bind, run_underlying ht, Result.andThen_ok]
    rfl
  find := fun w {x} ⟨n, h⟩ es he => by
    subst h
    rcases findNow_str (n := n) es 0 he with ⟨h1, h2⟩ | ⟨j, e, h1, h2, h3⟩
    · exact .inl ⟨MapKept.run_findKey ht h1, h2⟩
    · exact .inr ⟨j, e, by rw [MapKept.run_findKey ht h1, Nat.zero_add], h2, h3⟩
  stays := fun w {v} ⟨n, h⟩ => by subst h; simp [Instr.keyThatStays, Instr.sameBits, beq_bytes]
theorem ents_keysR {S : Value → Prop} {es : List MapEntry} {ents : List (Value × AV)} (h1 : es.map (·.key) = ents.map (·.1)) (hall : ∀ p ∈ ents, S p.1) : ∀ e ∈ es, S e.key := by
  intro e he
  have : e.key ∈ ents.map (·.1) := by rw [← h1]; exact List.mem_map.2 ⟨e, he, rfl⟩
  obtain ⟨p, hp, hpe⟩ := List.mem_map.1 this
  rw [← hpe]; exact hall p hp
theorem R.lookupR {kt : TypeId} {zero : Value} {x y : Operand} {b : Nat} {ents : List (Value × AV)} {ya : AV} {key : Value} {S : Value → Prop} (KL : KeyR P kt S) (hc : c ≠ .pure) (hx : aev E x = some (.v (.map (some b)))) (hb : h b = some (.map ents)) (hy : aev E y = some ya)
    (hya : ∀ st u, VRel st ya u → u = key) (hkey : S key) (hall : ∀ p ∈ ents, S p.1) {r : AV} (hno : (∀ p ∈ ents, p.1 ≠ key) → r = .v zero) (hyes : ∀ (j : Nat) (av : AV), ents[j]? = some (key, av) → r = av) (hk : K r h) :
    ROpS P c (.lookup kt zero x y false) E h K :=
  ROpS.of_read hc (fun oo ho => AOp.value fun ρ w hops hr => by
    have hres := resOp_sound ho
    generalize hop : oo.op = op' at hres hops
    cases hres with
    | lookup t _ e _ _ _ q z g1 g2 g3 =>
      have e1 := (hops x (by simp [Op.operands]) _ hx).inv_v
      have e2 := hya _ _ (hops y (by simp [Op.operands]) _ hy)
      obtain ⟨es, clock, hw, h1, h2, h3, h4⟩ := map_at hr hb
      rcases KL.find w hkey es.toList (ents_keysR h1 hall) with ⟨f1, f2⟩ | ⟨j, e0, f1, f2, f3⟩
      · have hr' := hno fun p hp hpe => by
          have : p.1 ∈ es.toList.map (·.key) := by rw [h1]; exact List.mem_map.2 ⟨p, hp, rfl⟩
          obtain ⟨e, he, hee⟩ := List.mem_map.1 this
          exact f2 e he (hee.trans hpe)
        refine ⟨zero, ?_, by rw [hr']; exact .v _⟩
        simp [execOp, hop, e1, e2, Instr.lookup, run_underlying g1, MapKept.run_getObj_map hw, KL.check w _ hkey, f1, run_zeroValue' g3, Result.andThen]
      · obtain ⟨a, ha⟩ := ents_at h1 f2
        rw [f3] at ha
        have hr' := hyes j a ha
        have hv := h2.get (i := j) (a := a) (by rw [List.getElem?_map, ha]; rfl)
        obtain ⟨u, hu, hau⟩ := hv
        rw [List.getElem?_map, f2] at hu
        cases hu
        refine ⟨e0.val, ?_, by rw [hr']; exact hau⟩
        simp [execOp, hop, e1, e2, Instr.lookup, run_underlying g1, MapKept.run_getObj_map hw, KL.check w _ hkey, f1, Result.andThen]) hk
theorem R.lookupOkR {kt : TypeId} {zero : Value} {x y : Operand} {b : Nat} {ents : List (Value × AV)} {ya : AV} {key : Value} {S : Value → Prop} (KL : KeyR P kt S) (hc : c ≠ .pure) (hx : aev E x = some (.v (.map (some b)))) (hb : h b = some (.map ents)) (hy : aev E y = some ya)
    (hya : ∀ st u, VRel st ya u → u = key) (hkey : S key) (hall : ∀ p ∈ ents, S p.1) {r : AV} (hno : (∀ p ∈ ents, p.1 ≠ key) → r = .tu [.v zero, .v (.bool false)]) (hyes : ∀ (j : Nat) (av : AV), ents[j]? = some (key, av) → r = .tu [av, .v (.bool true)]) (hk : K r h) :
    ROpS P c (.lookup kt zero x y true) E h K :=
  ROpS.of_read hc (fun oo ho => AOp.value fun ρ w hops hr => by
    have hres := resOp_sound ho
    generalize hop : oo.op = op' at hres hops
    cases hres with
    | lookup t _ e _ _ _ q z g1 g2 g3 =>
      have e1 := (hops x (by simp [Op.operands]) _ hx).inv_v
      have e2 := hya _ _ (hops y (by simp [Op.operands]) _ hy)
      obtain ⟨es, clock, hw, h1, h2, h3, h4⟩ := map_at hr hb
      rcases KL.find w hkey es.toList (ents_keysR h1 hall) with ⟨f1, f2⟩ | ⟨j, e0, f1, f2, f3⟩
      · have hr' := hno fun p hp hpe => by
          have : p.1 ∈ es.toList.map (·.key) := by rw [h1]; exact List.mem_map.2 ⟨p, hp, rfl⟩
          obtain ⟨e, he, hee⟩ := List.mem_map.1 this
          exact f2 e he (hee.trans hpe)
        refine ⟨.tuple #[zero, .bool false], ?_, by rw [hr']; exact .tu _ _ (.cons (.v _) (.cons (.v _) .nil))⟩
        simp [execOp, hop, e1, e2, Instr.lookup, run_underlying g1, MapKept.run_getObj_map hw, KL.check w _ hkey, f1, run_zeroValue' g3, Result.andThen]
      · obtain ⟨a, ha⟩ := ents_at h1 f2
        rw [f3] at ha
        have hr' := hyes j a ha
        have hv := h2.get (i := j) (a := a) (by rw [List.getElem?_map, ha]; rfl)
        obtain ⟨u, hu, hau⟩ := hv
        rw [List.getElem?_map, f2] at hu
        cases hu
        refine ⟨.tuple #[e0.val, .bool true], ?_, by rw [hr']; exact .tu _ _ (.cons hau (.cons (.v _) .nil))⟩
        simp [execOp, hop, e1, e2, Instr.lookup, run_underlying g1, MapKept.run_getObj_map hw, KL.check w _ hkey, f1, Result.andThen]) hk
theorem R.lookup {kt : TypeId} {zero : Value} {x y : Operand} {b : Nat} {ents : List (Value × AV)} {ya : AV} {key : Value} {l : Lit} (KL : KeyLaw P kt) (hc : c ≠ .pure) (hx : aev E x = some (.v (.map (some b)))) (hb : h b = some (.map ents)) (hy : aev E y = some ya)
    (hya : ∀ st u, VRel st ya u → u = key) (hkey : keyOf P kt key = some l) (hall : ∀ p ∈ ents, ∃ l, keyOf P kt p.1 = some l) {r : AV} (hno : (∀ p ∈ ents, p.1 ≠ key) → r = .v zero) (hyes : ∀ (j : Nat) (av : AV), ents[j]? = some (key, av) → r = av) (hk : K r h) :
    ROpS P c (.lookup kt zero x y false) E h K :=
  R.lookupR (.of_law KL) hc hx hb hy hya ⟨l, hkey⟩ hall hno hyes hk
theorem Rel.setMap {w : World} (hr : Rel h w) {b : Nat} {ents ents' : List (Value × AV)} {es es' : Array MapEntry} {clock clock' : Nat} (hb : h b = some (.map ents)) (hw : w.heap[b]? = some (.map es clock))
    (h1 : es'.toList.map (·.key) = ents'.map (·.1)) (h2 : VRels (stab h w) (ents'.map (·.2)) (es'.toList.map (·.val))) (h3 : (es'.toList.map (·.born)).Nodup) (h4 : ∀ e ∈ es'.toList, e.born < clock') :
    let w' : World := { w with heap := w.heap.setIfInBounds b (.map es' clock') }
    Rel (h.set b (.map ents')) w' ∧ Evol h w (h.set b (.map ents')) w' := by
  intro w'
  have hlt : b < w.heap.size := (Array.getElem?_eq_some_iff.1 hw).1
  have hat : w'.heap[b]? = some (.map es' clock') := by
    show (w.heap.setIfInBounds b _)[b]? = _
    rw [Array.getElem?_setIfInBounds_self_of_lt hlt]
  have hother : ∀ x, x ≠ b → w'.heap[x]? = w.heap[x]? := fun x hx => by
    show (w.heap.setIfInBounds b _)[x]? = _
    rw [Array.getElem?_setIfInBounds_ne (Ne.symm hx)]
  have hle : (stab h w).le (stab (h.set b (.map ents')) w') := by
    intro a u ha
    by_cases hab : a.block = b
    · simp [stab, hab, hb] at ha
    · rw [stab_congr (h := h) (w := w) (AHeap.set_other h _ hab) (hother _ hab)]
      exact ha
  refine ⟨hr.step (b := b) (fun x hx => AHeap.set_other h _ hx) (fun x hx _ => hother x hx) hle (fun o ho => ?_), rfl, rfl, rfl, by show w.heap.size ≤ (w.heap.setIfInBounds b _).size; simp, hle, fun x hx hn => ?_⟩
  · simp only [AHeap.set_same, Option.some.injEq] at ho
    subst ho
    exact ⟨_, hat, es', clock', rfl, h1, h2.mono hle, h3, h4⟩
  · have hne : x ≠ b := fun e => by subst e; rw [hb] at hn; cases hn
    exact ⟨by rw [AHeap.set_other h _ hne]; exact hn, hother x hne⟩
theorem R.mapUpdateR {kt : TypeId} {m x y : Operand} {b : Nat} {ents : List (Value × AV)} {xa ya : AV} {key : Value} {S : Value → Prop} (KL : KeyR P kt S) (hc : c = .act) (hm : aev E m = some (.v (.map (some b)))) (hb : h b = some (.map ents)) (hx : aev E x = some xa)
    (hxa : ∀ st u, VRel st xa u → u = key) (hy : aev E y = some ya) (hkey : S key) (hall : ∀ p ∈ ents, S p.1)
    (H1 : (∀ p ∈ ents, p.1 ≠ key) → K (.v undef) (h.set b (.map (ents ++ [(key, ya)])))) (H2 : ∀ (j : Nat) (av : AV), ents[j]? = some (key, av) → K (.v undef) (h.set b (.map (ents.set j (key, ya))))) :
    ROpS P c (.mapUpdate kt m x y) E h K := by
  subst hc
  intro o ho
  refine AOp.skip fun ρ w hops hr => ?_
  have hres := resOp_sound ho
  generalize hop : o.op = op' at hres hops
  cases hres with
  | mapUpdate t _ e _ _ _ q g1 g2 =>
    have e1 := (hops m (by simp [Op.operands]) _ hm).inv_v
    have e2 := hxa _ _ (hops x (by simp [Op.operands]) _ hx)
    have e3 := hops y (by simp [Op.operands]) _ hy
    obtain ⟨es, clock, hw, h1, h2, h3, h4⟩ := map_at hr hb
    rcases KL.find w hkey es.toList (ents_keysR h1 hall) with ⟨f1, f2⟩ | ⟨j, e0, f1, f2, f3⟩
    · have hr' := H1 fun p hp hpe => by
        have : p.1 ∈ es.toList.map (·.key) := by rw [h1]; exact List.mem_map.2 ⟨p, hp, rfl⟩
        obtain ⟨e, he, hee⟩ := List.mem_map.1 this
        exact f2 e he (hee.trans hpe)
      obtain ⟨r1, r2⟩ := Rel.setMap (ents' := ents ++ [(key, ya)]) (es' := es.push ⟨key, ρ y, clock⟩) (clock' := clock + 1) hr hb hw (by simp [h1]) (by
          simp only [Array.toList_push, List.map_append, List.map_cons, List.map_nil]
          exact h2.append (.cons e3 .nil)) (by
          simp only [Array.toList_push, List.map_append, List.map_cons, List.map_nil]
          rw [List.nodup_append]
          refine ⟨h3, by simp, fun a ha b hb => ?_⟩
          obtain ⟨e, he, rfl⟩ := List.mem_map.1 ha
          have := h4 e he
          simp at hb; omega) (by
          intro e he
          simp only [Array.toList_push, List.mem_append, List.mem_singleton] at he
          rcases he with he | rfl
          · exact Nat.lt_succ_of_lt (h4 e he)
          · exact Nat.lt_succ_self _)
      refine ⟨_, _, ?_, hr', r1, r2⟩
      simp [execOp, hop, e1, e2, Instr.mapUpdate, run_underlying g1, MapKept.run_getObj_map hw, KL.check w false hkey, f1, MapKept.run_setObj_map _ hw, Result.andThen]
    · obtain ⟨a, ha⟩ := ents_at h1 f2
      rw [f3] at ha
      have hr' := H2 j a ha
      have hj : es[j]? = some e0 := by simpa using f2
      have hml : (es.modify j fun e' => { e' with key := key, val := ρ y }).toList = es.toList.set j { e0 with key := key, val := ρ y } := by
        rw [Array.toList_modify, Go.ChangeMaps.modify_eq_set _ _ _ _ f2]
      obtain ⟨r1, r2⟩ := Rel.setMap (ents' := ents.set j (key, ya)) (es' := es.modify j fun e' => { e' with key := key, val := ρ y }) (clock' := clock) hr hb hw (by
          rw [hml, List.map_set, List.map_set, h1]) (by
          rw [hml, List.map_set, List.map_set]
          exact h2.set j e3) (by
          rw [hml, List.map_set]
          have : (es.toList.map (·.born)).set j e0.born = es.toList.map (·.born) := by
            apply List.ext_getElem?
            intro i
            rw [List.getElem?_set]
            split
            · next e => subst e; rw [List.getElem?_map, f2]; split <;> simp_all
            · rfl
          rw [this]; exact h3) (by
          intro e he
          rw [hml] at he
          rcases List.mem_or_eq_of_mem_set he with he | rfl
          · exact h4 e he
          · exact h4 e0 (List.mem_of_getElem? f2))
      refine ⟨_, _, ?_, hr', r1, r2⟩
      simp [execOp, hop, e1, e2, Instr.mapUpdate, run_underlying g1, MapKept.run_getObj_map hw, KL.check w false hkey, f1, hj, f3, KL.stays w hkey, MapKept.run_setObj_map _ hw, Result.andThen]
  | insert t _ e _ _ _ q g1 g2 =>
    have e1 := (hops m (by simp [Op.operands]) _ hm).inv_v
    have e2 := hxa _ _ (hops x (by simp [Op.operands]) _ hx)
    have e3 := hops y (by simp [Op.operands]) _ hy
    obtain ⟨es, clock, hw, h1, h2, h3, h4⟩ := map_at hr hb
    rcases KL.find w hkey es.toList (ents_keysR h1 hall) with ⟨f1, f2⟩ | ⟨j, e0, f1, f2, f3⟩
    · have hr' := H1 fun p hp hpe => by
        have : p.1 ∈ es.toList.map (·.key) := by rw [h1]; exact List.mem_map.2 ⟨p, hp, rfl⟩
        obtain ⟨e, he, hee⟩ := List.mem_map.1 this
        exact f2 e he (hee.trans hpe)
      obtain ⟨r1, r2⟩ := Rel.setMap (ents' := ents ++ [(key, ya)]) (es' := es.push ⟨key, ρ y, clock⟩) (clock' := clock + 1) hr hb hw (by simp [h1]) (by
          simp only [Array.toList_push, List.map_append, List.map_cons, List.map_nil]
          exact h2.append (.cons e3 .nil)) (by
          simp only [Array.toList_push, List.map_append, List.map_cons, List.map_nil]
          rw [List.nodup_append]
          refine ⟨h3, by simp, fun a ha b hb => ?_⟩
          obtain ⟨e, he, rfl⟩ := List.mem_map.1 ha
          have := h4 e he
          simp at hb; omega) (by
          intro e he
          simp only [Array.toList_push, List.mem_append, List.mem_singleton] at he
          rcases he with he | rfl
          · exact Nat.lt_succ_of_lt (h4 e he)
          · exact Nat.lt_succ_self _)
      refine ⟨_, _, ?_, hr', r1, r2⟩
      simp [execOp, hop, e1, e2, Instr.mapUpdate, run_underlying g1, MapKept.run_getObj_map hw, KL.check w false hkey, f1, MapKept.run_setObj_map _ hw, Result.andThen]
    · obtain ⟨a, ha⟩ := ents_at h1 f2
      rw [f3] at ha
      have hr' := H2 j a ha
      have hj : es[j]? = some e0 := by simpa using f2
      have hml : (es.modify j fun e' => { e' with key := key, val := ρ y }).toList = es.toList.set j { e0 with key := key, val := ρ y } := by
        rw [Array.toList_modify, Go.ChangeMaps.modify_eq_set _ _ _ _ f2]
      obtain ⟨r1, r2⟩ := Rel.setMap (ents' := ents.set j (key, ya)) (es' := es.modify j fun e' => { e' with key := key, val := ρ y }) (clock' := clock) hr hb hw (by
          rw [hml, List.map_set, List.map_set, h1]) (by
          rw [hml, List.map_set, List.map_set]
          exact h2.set j e3) (by
          rw [hml, List.map_set]
          have : (es.toList.map (·.born)).set j e0.born = es.toList.map (·.born) := by
            apply List.ext_getElem?
            intro i
            rw [List.getElem?_set]
            split
            · next e => subst e; rw [List.getElem?_map, f2]; split <;> simp_all
            · rfl
          rw [this]; exact h3) (by
          intro e he
          rw [hml] at he
          rcases List.mem_or_eq_of_mem_set he with he | rfl
          · exact h4 e he
          · exact h4 e0 (List.mem_of_getElem? f2))
      refine ⟨_, _, ?_, hr', r1, r2⟩
      simp [execOp, hop, e1, e2, Instr.mapUpdate, run_underlying g1, MapKept.run_getObj_map hw, KL.check w false hkey, f1, hj, f3, KL.stays w hkey, MapKept.run_setObj_map _ hw, Result.andThen]
theorem R.mapUpdate {kt : TypeId} {m x y : Operand} {b : Nat} {ents : List (Value × AV)} {xa ya : AV} {key : Value} {l : Lit} (KL : KeyLaw P kt) (hc : c = .act) (hm : aev E m = some (.v (.map (some b)))) (hb : h b = some (.map ents)) (hx : aev E x = some xa)
    (hxa : ∀ st u, VRel st xa u → u = key) (hy : aev E y = some ya) (hkey : keyOf P kt key = some l) (hall : ∀ p ∈ ents, ∃ l, keyOf P kt p.1 = some l)
    (H1 : (∀ p ∈ ents, p.1 ≠ key) → K (.v undef) (h.set b (.map (ents ++ [(key, ya)])))) (H2 : ∀ (j : Nat) (av : AV), ents[j]? = some (key, av) → K (.v undef) (h.set b (.map (ents.set j (key, ya))))) :
    ROpS P c (.mapUpdate kt m x y) E h K :=
  R.mapUpdateR (.of_law KL) hc hm hb hx hxa hy ⟨l, hkey⟩ hall H1 H2
end
end Go.Av
