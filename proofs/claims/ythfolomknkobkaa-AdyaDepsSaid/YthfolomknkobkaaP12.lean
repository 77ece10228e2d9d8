/-
  AdyaDeps answers true for every history
-/
import Derived.Test.YthfolomknkobkaaP11
set_option linter.unusedVariables false
set_option linter.unusedSimpArgs false
namespace Go.Av
section
variable {P : Program}
theorem cell?_deferred {w : World} {r : Nat} {o : Option (List Deferred)} (ho : w.heap[r]? = some (.deferred o)) {a : Addr} (ha : a.block = r) : w.cell? a = none := by simp [World.cell?, ha, ho]
theorem Rel.putFree {h : AHeap} {w : World} {r : Nat} {o' : Obj} (hr : Rel h w) (hn : h r = none) (hc : ∀ a : Addr, a.block = r → w.cell? a = none) : Rel h (w.putObj r o') ∧ (stab h w).le (stab h (w.putObj r o')) := by
  have hle : (stab h w).le (stab h (w.putObj r o')) := by
    intro a u ha
    by_cases hab : a.block = r
    · simp only [stab, hab, hn] at ha
      rw [hc a hab] at ha; cases ha
    · rw [stab_congr (h := h) (w := w) rfl (World.putObj_heap_other hab)]; exact ha
  exact ⟨hr.step (b := r) (fun _ _ => rfl) (fun x hx _ => World.putObj_heap_other hx) hle (fun o ho => by rw [hn] at ho; cases ho), hle⟩
theorem pop_marks {h : AHeap} {k : Nat} : ∀ (ms : List Nat) (fr : Frame) (cs : List Frame) (w : World), fr.mode = .returning → fr.defers = ms.map mark → Marks ms k h w → Rel h w →
    ∃ w', Steps P (lone fr cs w) (lone { fr with defers := [] } cs w') ∧ Rel h w' ∧ (stab h w).le (stab h w') ∧ w'.heap.size = w.heap.size ∧ w'.os = w.os ∧ w'.tape = w.tape ∧ w'.output = w.output ∧ ∀ b, b < k → w'.heap[b]? = w.heap[b]?
  | [], fr, cs, w, hm, hd, _, hr => by
    have : { fr with defers := [] } = fr := by cases fr; simp at hd; simp [hd]
    rw [this]
    exact ⟨w, .refl P _, hr, .refl _, rfl, rfl, rfl, rfl, fun _ _ => rfl⟩
  | r :: ms, fr, cs, w, hm, hd, hM, hr => by
    obtain ⟨h1, h2, h3, h4⟩ := hM.2 r (by simp)
    have htake := run_takeDeferred (P := P) h4
    have hs := step_collected (P := P) (fr := fr) (cs := cs) (d := mark r) (r := r) (ds := ms.map mark) (by rw [hm]; simp) (by simpa using hd) rfl htake
    obtain ⟨hr', hle⟩ := hr.putFree (o' := .deferred none) h3 (fun a ha => cell?_deferred h4 ha)
    have hM' : Marks ms k h (w.putObj r (.deferred none)) := ⟨(List.nodup_cons.1 hM.1).2, fun x hx => by
      obtain ⟨g1, g2, g3, g4⟩ := hM.2 x (by simp [hx])
      have hne : x ≠ r := fun e => (List.nodup_cons.1 hM.1).1 (e ▸ hx)
      exact ⟨g1, by simpa using g2, g3, by rw [World.putObj_heap_other hne]; exact g4⟩⟩
    obtain ⟨w', s, r1, r2, r3, r4, r5, r6, r7⟩ := pop_marks ms { fr with defers := [] ++ ms.map mark } cs (w.putObj r (.deferred none)) hm rfl hM' hr'
    exact ⟨w', Steps.trans (.one hs) s, r1, hle.trans r2, by rw [r3]; simp, r4, r5, r6, fun b hb => by rw [r7 b hb, World.putObj_heap_other (by omega)]⟩
theorem ACalls.of_run {f : FuncId} {fn : Func} {c : Code} {r : RCode} {args : List AV} {h : AHeap} {K : AV → AHeap → Prop} (hf : P.funcs[f]? = some fn) (hb : fn.body = some c) {n : Nat} (hn : fn.ntmps = n) {md : Nat → Bool} (hc : resCodeM P n md c = some r)
    (hl : args.length ≤ n) (H : RRun P fn n [.code r] (envOf args) h K) : ACalls P f args h K := by
  intro vs w hv hr cs
  have hlen := hv.length
  have hst : St n [] (envOf args) h { tmps := vs.toArray ++ Array.replicate (n - vs.toArray.size) undef, defers := [] } w := by
    refine ⟨rfl, by simp; omega, ?_, hr⟩
    intro t x hx
    obtain ⟨u, h1, h2⟩ := hv.get hx
    refine ⟨u, ?_, h2⟩
    have hlt : t < vs.length := by
      rcases Nat.lt_or_ge t vs.length with h' | h'
      · exact h'
      · simp [List.getElem?_eq_none h'] at h1
    show (vs.toArray ++ Array.replicate (n - vs.toArray.size) undef)[t]? = some u
    rw [Array.getElem?_append_left (by simpa using hlt)]
    simpa using h1
  let b : Frame := { (default : Frame) with fn := f, kind := .normal, roundOf := none }
  have henter : Frame.enter P f vs.toArray .normal = b.atR { tmps := vs.toArray ++ Array.replicate (n - vs.toArray.size) undef, defers := [] } [.code c] := by
    simp [Frame.enter, Frame.atR, hf, hb, b, hn]
  obtain ⟨a', w', t', j, E', h', ms, s, hlv, ⟨hj, rs, xs, hrs, hxs, hq⟩, hst', hev, hm⟩ := H [.code c] (.cons (md := md) (by simp [resT, hc]) .nil) [] _ w hst b cs rfl
  rw [← henter] at s
  have s2 : step P (lone (b.atR a' t') cs w') = .next (lone { b.atR a' t' with mode := .returning } cs w') := by
    rcases hj with rfl | rfl
    · have : t' = [] := hlv
      subst this; exact stepR_end rfl
    · obtain ⟨k, rfl⟩ := hlv
      exact stepR_ret rfl
  have hd : ({ b.atR a' t' with mode := .returning } : Frame).defers = ms.map mark := by
    have := hst'.defers
    simpa [Frame.atR] using this
  obtain ⟨w'', s3, r1, r2, r3, r4, r5, r6, r7⟩ := pop_marks (P := P) ms { b.atR a' t' with mode := .returning } cs w' rfl hd hm hst'.rel
  obtain ⟨u, g1, g2⟩ := results_rel (P := P) hrs (h := h') (n := n) (ds := a'.defers) (a := a') (w := w'') ⟨rfl, hst'.size, hst'.env.mono r2, r1⟩ hxs
  have hev2 : Evol h w h' w'' := ⟨r4.trans hev.os, r5.trans hev.tape, r6.trans hev.output, by rw [r3]; exact hev.size, hev.stab.trans r2, fun x hx hn' => let ⟨e1, e2⟩ := hev.free x hx hn'; ⟨e1, (r7 x hx).trans e2⟩⟩
  exact ⟨.returned u, w'', _, ⟨u, _, h', rfl, hq, g2, r1, hev2⟩, Steps.trans s (Steps.trans (.one s2) s3), rfl, rfl, rfl, rfl, fn, hf, g1⟩
theorem stab_loop {h : AHeap} {w : World} {l : Nat} {r : ALoop} (hl : h l = some (.loop r)) {a : Addr} (ha : a.block = l) : stab h w a = none := by simp [stab, ha, hl]
theorem Rel.putLoop {h : AHeap} {w : World} {l : Nat} {r r' : ALoop} {o' : Obj} (hr : Rel h w) (hl : h l = some (.loop r)) (hb : BRel (stab h w) (.loop r') o') :
    Rel (h.set l (.loop r')) (w.putObj l o') ∧ Evol h w (h.set l (.loop r')) (w.putObj l o') := by
  have hlt := hr.lt hl
  have hle : (stab h w).le (stab (h.set l (.loop r')) (w.putObj l o')) := by
    intro a u ha
    by_cases hab : a.block = l
    · rw [stab_loop hl hab] at ha; cases ha
    · rw [stab_congr (h := h) (w := w) (AHeap.set_other h _ hab) (World.putObj_heap_other hab)]; exact ha
  refine ⟨hr.step (b := l) (fun x hx => AHeap.set_other h _ hx) (fun x hx _ => World.putObj_heap_other hx) hle (fun o ho => ?_), rfl, rfl, rfl, by simp, hle, fun b hb' hn => ?_⟩
  · simp only [AHeap.set_same, Option.some.injEq] at ho
    subst ho
    exact ⟨o', World.putObj_heap_same hlt, hb.mono hle⟩
  · have hne : b ≠ l := fun e => by subst e; rw [hl] at hn; cases hn
    exact ⟨by rw [AHeap.set_other _ _ hne]; exact hn, World.putObj_heap_other hne⟩
theorem Rel.dropLoop {h : AHeap} {w : World} {l : Nat} {r : ALoop} {o' : Obj} (hr : Rel h w) (hl : h l = some (.loop r)) :
    Rel (h.del l) (w.putObj l o') ∧ Evol h w (h.del l) (w.putObj l o') := by
  have hle : (stab h w).le (stab (h.del l) (w.putObj l o')) := by
    intro a u ha
    by_cases hab : a.block = l
    · rw [stab_loop hl hab] at ha; cases ha
    · rw [stab_congr (h := h) (w := w) (AHeap.del_other h hab) (World.putObj_heap_other hab)]; exact ha
  refine ⟨hr.step (b := l) (fun x hx => AHeap.del_other h hx) (fun x hx _ => World.putObj_heap_other hx) hle (fun o ho => by simp at ho), rfl, rfl, rfl, by simp, hle, fun b hb' hn => ?_⟩
  have hne : b ≠ l := fun e => by subst e; rw [hl] at hn; cases hn
  exact ⟨by rw [AHeap.del_other _ hne]; exact hn, World.putObj_heap_other hne⟩
def Resd (P : Program) (n : Nat) (c : Code) (x : RCode) : Prop := ∃ md, resCodeM P n md c = some x
def JumpS (P : Program) (ro : Option Nat) (n : Nat) (j : Option Code) (k : List RT) (E : AEnv) (h : AHeap) (Q : Option Code → AEnv → AHeap → Prop) : Prop :=
  match j with
  | none => RRunG P ro n k E h Q
  | some .ret => RRunG P ro n (.code .ret :: k) E h Q
  | some (.exit id) => RRunG P ro n (.code (.exit id) :: k) E h Q
  | _ => False
def FnIs (av : AV) (f : FuncId) (first captured : List AV) : Prop := ∀ st u, VRel st av u → ∃ us vs, u = .func (.func f) us vs ∧ VRels st first us.toList ∧ VRels st captured vs.toList
theorem FnIs.fn (f : FuncId) (a b : List AV) : FnIs (.fn (.func f) a b) f a b := fun st u h => by cases h with | fn _ _ _ us vs h1 h2 => exact ⟨us, vs, rfl, h1, h2⟩
theorem FnIs.v (f : FuncId) (us vs : Array Value) : FnIs (.v (.func (.func f) us vs)) f (us.toList.map .v) (vs.toList.map .v) := fun st u h => by cases h; exact ⟨us, vs, rfl, VRels.map_v _, VRels.map_v _⟩
abbrev yieldV (l : Nat) : AV := .v (.func (.yield l) #[] #[])
variable {ro : Option Nat} {n : Nat} {E : AEnv} {h : AHeap} {Q : Option Code → AEnv → AHeap → Prop} {k : List RT}
theorem enterLoop_rel {ds : List Deferred} {a : Act} {w : World} (hst : St n ds E h a w) (fn : FuncId) (ps : Array Tmp) (cx cy : Code) (hro : ∀ l0, ro = some l0 → ∃ r0, h l0 = some (.loop r0)) :
    ∃ l ms w1, (Instr.enterLoop fn a.tmps ps cx cy ro).run P w = .ok (l, ms.map mark) w1 ∧ h l = none ∧ Rel (h.set l (.loop ⟨E, n, ps, cx, cy, .ready, none⟩)) w1 ∧ Evol h w (h.set l (.loop ⟨E, n, ps, cx, cy, .ready, none⟩)) w1 ∧
      Marks ms w.heap.size (h.set l (.loop ⟨E, n, ps, cx, cy, .ready, none⟩)) w1 := by
  cases ro with
  | none =>
    have hr1 := hst.rel.alloc (.deferred (some []))
    have hl1 := stab_alloc (o := .deferred (some [])) (h' := h) hst.rel (fun _ _ => rfl)
    have hl : h (w.alloc (.deferred (some []))).heap.size = none := hr1.fresh
    have hb : BRel (stab h (w.alloc (.deferred (some [])))) (.loop ⟨E, n, ps, cx, cy, .ready, none⟩) (.loop { state := .ready, pending := none, fn, tmps := a.tmps, params := ps, assign := cx, body := cy, defers := w.heap.size }) :=
      ⟨fn, a.tmps, w.heap.size, rfl, hst.size, hst.env.mono hl1⟩
    have hr2 := hr1.alloc_own hb
    have hev1 : Evol h w h (w.alloc (.deferred (some []))) := .alloc hst.rel (fun _ _ => rfl)
    have hev2 := Evol.alloc (h' := h.set (w.alloc (.deferred (some []))).heap.size (.loop ⟨E, n, ps, cx, cy, .ready, none⟩)) (o := .loop { state := .ready, pending := none, fn, tmps := a.tmps, params := ps, assign := cx, body := cy, defers := w.heap.size }) hr1 (fun x hx => AHeap.set_other h _ hx)
    have hsz : (w.alloc (.deferred (some []))).heap.size = w.heap.size + 1 := by simp
    rw [hsz] at hl hr2 hev2
    refine ⟨w.heap.size + 1, [w.heap.size], _, run_enterLoop_outer fn a.tmps ps cx cy, hl, hr2, hev1.trans hev2, ?_⟩
    have hM : Marks [w.heap.size] w.heap.size h (w.alloc (.deferred (some []))) := ⟨by simp, fun r hr => by
      simp at hr; subst hr
      exact ⟨Nat.le_refl _, by simp, hst.rel.fresh, heap_alloc_eq w _⟩⟩
    exact hM.evol hev2
  | some l0 =>
    obtain ⟨r0, h0⟩ := hro l0 rfl
    obtain ⟨x, hx, fn0, tmps0, ds0, rfl, _, _⟩ := hst.rel l0 _ h0
    have hb : BRel (stab h w) (.loop ⟨E, n, ps, cx, cy, .ready, none⟩) (.loop { state := .ready, pending := none, fn, tmps := a.tmps, params := ps, assign := cx, body := cy, defers := ds0 }) := ⟨fn, a.tmps, ds0, rfl, hst.size, hst.env⟩
    refine ⟨w.heap.size, [], w.alloc (.loop { state := .ready, pending := none, fn, tmps := a.tmps, params := ps, assign := cx, body := cy, defers := ds0 }), ?_, hst.rel.fresh, hst.rel.alloc_own hb, .alloc hst.rel (fun x hx => AHeap.set_other h _ hx), .nil _ _ _⟩
    unfold Instr.enterLoop
    simp only [Sem.run_bind, run_getLoop hx, run_newObj_alloc, Result.andThen, Sem.run_pure, List.map_nil]
theorem RRunG.rangeFuncC {g : Operand} {ps : Array Tmp} {x y : RCode} {f : FuncId} {first captured : List AV} {av : AV} (hg : aev E g = some av) (hfn : FnIs av f first captured) (hp : plainCallee P f = true) (hro : ∀ l0, ro = some l0 → ∃ r0, h l0 = some (.loop r0))
    (H : ∀ cx cy, Resd P n cx x → Resd P n cy y → ∀ l, h l = none → ACalls P f (first ++ [yieldV l] ++ captured) (h.set l (.loop ⟨E, n, ps, cx, cy, .ready, none⟩))
      (fun _ h' => ∃ r, h' l = some (.loop r) ∧ r.state ≠ .busy ∧ JumpS P ro n r.pending k E (h'.del l) Q)) : RRunG P ro n (.code (.rangeFunc g ps x y) :: k) E h Q :=
  RRun.code fun md cc k' hc hs hk => by
    obtain ⟨cx, cy, rfl, hx, hy⟩ := resCode_rangeFunc hs hc
    intro ds a w hst b cs hb
    obtain ⟨l, ms, w1, he, hl, hr1, hev1, hm1⟩ := enterLoop_rel (P := P) hst b.fn ps cx cy hro
    obtain ⟨us, vs, hu, h1, h2⟩ := hfn _ _ (aev_rel hst.env hg)
    have hres : (resolve a.eval (rangeCall g l) 0).run P w1 = .ok { target := .fn (.func f) vs, args := us ++ #[.func (.yield l) #[] #[]] } w1 := by
      have hev : (#[Operand.const (.func (.yield l) #[] #[])] : Array Operand).map a.eval = #[Value.func (.yield l) #[] #[]] := by simp [Act.eval]
      simp only [resolve, rangeCall, hu, hev, Deferred.ofValue, Sem.run_pure]
    have hinv : (invoke (.fn (.func f) vs) (us ++ #[.func (.yield l) #[] #[]])).run P w1 = .ok (.enter f (us ++ #[.func (.yield l) #[] #[]] ++ vs)) w1 := by
      simp only [invoke, run_callFunc' hp]
    rw [← hb] at he
    have hstep := stepR_rangeFunc (P := P) (b := b) (a := a) (k := k') (cs := cs) (w := w) he hres hinv
    have hcall := H cx cy ⟨md, hx⟩ ⟨md, hy⟩ l hl (us.toList ++ [Value.func (.yield l) #[] #[]] ++ vs.toList) w1 (((h1.mono hev1.stab).append (.cons (.v _) .nil)).append (h2.mono hev1.stab)) hr1
    have hargs : (us.toList ++ [Value.func (.yield l) #[] #[]] ++ vs.toList).toArray = us ++ #[Value.func (.yield l) #[] #[]] ++ vs := by simp
    rw [hargs] at hcall
    obtain ⟨e, w2, fr, ⟨u, xx, h', rfl, ⟨r, hl', hbusy, hJ⟩, _, hr2, hev2⟩, hsteps, hfn', hleave⟩ := hcall (b.atR { a with defers := ms.map mark ++ a.defers } (.inRangeFunc l :: k') :: cs)
    obtain ⟨x', hx', fn', tmps', dd, rfl, _, _⟩ := hr2 l _ hl'
    have hend := run_endLoop (P := P) hx' hbusy
    have s2 := step_leave_returned (cs := cs) (c := b.atR { a with defers := ms.map mark ++ a.defers } (.inRangeFunc l :: k')) hleave
    rw [finish_atR_inRangeFunc] at s2
    have s3 := stepR_endRangeFunc (P := P) (b := b) (a := { a with defers := ms.map mark ++ a.defers }) (k := k') (cs := cs) hend
    obtain ⟨hr3, hev3⟩ := hr2.dropLoop (o' := .loop { state := .exhausted, pending := r.pending, fn := fn', tmps := tmps', params := r.ps, assign := r.assign, body := r.body, defers := dd }) hl'
    have hev : Evol h w (h'.del l) (w2.putObj l (.loop { state := .exhausted, pending := r.pending, fn := fn', tmps := tmps', params := r.ps, assign := r.assign, body := r.body, defers := dd })) := (hev1.trans hev2).trans hev3
    have hst3 : St n (ms.map mark ++ ds) E (h'.del l) { a with defers := ms.map mark ++ a.defers } (w2.putObj l (.loop { state := .exhausted, pending := r.pending, fn := fn', tmps := tmps', params := r.ps, assign := r.assign, body := r.body, defers := dd })) :=
      ⟨by simp [hst.defers], hst.size, hst.env.mono hev.stab, hr3⟩
    have hnext : ∃ rt', ResTodo P n ((r.pending.map Item.code).toList ++ k') rt' ∧ RRunG P ro n rt' E (h'.del l) Q := by
      unfold JumpS at hJ
      cases hpd : r.pending with
      | none => rw [hpd] at hJ; exact ⟨k, hk, hJ⟩
      | some c =>
        rw [hpd] at hJ
        cases c <;> simp only at hJ
        case ret => exact ⟨_, .cons (md := md) (by simp [resT, resCodeM]) hk, hJ⟩
        case exit id => exact ⟨_, .cons (md := md) (by simp [resT, resCodeM]) hk, hJ⟩
    obtain ⟨rt', ht', hrun⟩ := hnext
    obtain ⟨a4, w4, t4, j4, E4, h4, ms4, s4, p1, p2, p3, p4, p5⟩ := hrun _ ht' _ _ _ hst3 b cs hb
    have hm3 := ((hm1.evol hev2).evol hev3).evol p4
    refine ⟨a4, w4, t4, j4, E4, h4, ms4 ++ ms, ?_, p1, p2, by simpa using p3, hev.trans p4, ?_⟩
    · exact Steps.trans (.one hstep) (Steps.trans hsteps (Steps.trans (.one s2) (Steps.trans (.one s3) s4)))
    · refine Marks.append hm3 p5 (fun r' hr' => ?_) hev.size
      have q1 := (hm1.2 r' hr').2.1
      exact Nat.lt_of_lt_of_le q1 (hev2.trans hev3).size
theorem RRunG.begin {l : Nat} {r : ALoop} (hl : h l = some (.loop r)) (hr : r.state = .ready) (H : RRunG P (some l) n k E (h.set l (.loop { r with state := .busy })) Q) : RRunG P (some l) n (.begin :: k) E h Q :=
  RRun.of_head fun md i k' hi hk => by
    cases i <;> simp [resT] at hi
    intro ds a w hst b cs hb
    obtain ⟨x, hx, fn, tmps, dd, rfl, q1, q2⟩ := hst.rel l _ hl
    have hrun := run_beginRound (P := P) hx hr
    obtain ⟨hr1, hev1⟩ := hst.rel.putLoop (r' := { r with state := .busy }) (o' := .loop { state := .busy, pending := r.pending, fn, tmps, params := r.ps, assign := r.assign, body := r.body, defers := dd }) hl ⟨fn, tmps, dd, rfl, q1, q2⟩
    obtain ⟨a4, w4, t4, j4, E4, h4, ms4, s4, p1, p2, p3, p4, p5⟩ := H k' hk ds a _ ⟨hst.defers, hst.size, hst.env.mono hev1.stab, hr1⟩ b cs hb
    exact ⟨a4, w4, t4, j4, E4, h4, ms4, Steps.trans (.one (stepR_beginRound hb hrun)) s4, p1, p2, p3, hev1.trans p4, p5.le hev1.size⟩
def puts (E : AEnv) : List Tmp → List AV → AEnv
  | t :: ts, x :: xs => puts (E.put (some t) x) ts xs
  | _, _ => E
theorem puts_rel {st : Store} : ∀ (ps : List Tmp) (as : List AV) (us : List Value) (tmps : Array Value) (E : AEnv), EnvRel st E tmps → VRels st as us → (∀ t ∈ ps, t < tmps.size) →
    EnvRel st (puts E ps as) ((ps.zip us).foldl (fun tmps p => tmps.setIfInBounds p.1 p.2) tmps) ∧ ((ps.zip us).foldl (fun tmps p => tmps.setIfInBounds p.1 p.2) tmps).size = tmps.size
  | [], as, us, tmps, E, he, _, _ => by simpa [puts] using he
  | t :: ps, [], us, tmps, E, he, hv, _ => by cases hv; simpa [puts] using he
  | t :: ps, a :: as, u :: us, tmps, E, he, .cons h1 h2, hps => by
    have he' := EnvRel.put (a := { tmps, defers := [] }) (dst := some t) he h1 (fun d hd => by cases hd; exact hps t (by simp))
    have := puts_rel ps as us (tmps.setIfInBounds t u) (E.put (some t) a) he' h2 (fun s hs => by simpa using hps s (by simp [hs]))
    simp only [List.zip_cons_cons, List.foldl_cons, puts]
    exact ⟨this.1, by rw [this.2]; simp⟩
def AYield (P : Program) (l : Nat) (as : List AV) (h : AHeap) (K : Bool → AHeap → Prop) : Prop :=
  ∃ r x y, h l = some (.loop r) ∧ Resd P r.n r.assign x ∧ Resd P r.n r.body y ∧ as.length = r.ps.size ∧ (r.ps.toList.all fun t => decide (t < r.n)) = true ∧
    RRunG P (some l) r.n [.code x, .begin, .code y] (puts r.E r.ps.toList as) h (fun j _ h' => ∃ r', h' l = some (.loop r') ∧ K j.isNone (h'.set l (.loop { r' with state := if j.isNone then .ready else .done, pending := j })))
theorem AYield.mono {l : Nat} {as : List AV} {K K' : Bool → AHeap → Prop} (H : AYield P l as h K) (hk : ∀ b h', K b h' → K' b h') : AYield P l as h K' := by
  obtain ⟨r, x, y, h1, h2, h3, h4, h5, h6⟩ := H
  refine ⟨r, x, y, h1, h2, h3, h4, h5, fun todo ht ds a w hst b cs hb => ?_⟩
  obtain ⟨a4, w4, t4, j4, E4, h4, ms4, s4, p1, ⟨r', p2, p2'⟩, p3⟩ := h6 todo ht ds a w hst b cs hb
  exact ⟨a4, w4, t4, j4, E4, h4, ms4, s4, p1, ⟨r', p2, hk _ _ p2'⟩, p3⟩
theorem run_yieldCall {o : Oper} {cl : Call} {g : Operand} {ρ : Operand → Value} {w : World} {l : Nat} (hop : o.op = .call cl) (g1 : cl.callee = .value g) (hg : ρ g = .func (.yield l) #[] #[]) : (execOp ρ o).run P w = (Instr.yield l (cl.args.map ρ)).run P w := by
  simp only [execOp, hop, resolve, g1, Sem.run_bind, hg, Deferred.ofValue, Sem.run_pure, Result.andThen_ok, invoke, Array.empty_append]
theorem AOp.yield {o : Oper} {g : Operand} {l : Nat} {args : List Operand} {as : List AV} {K : AV → AHeap → Prop} (ho : resOp P o = some (.callv g args)) (hg : aev E g = some (yieldV l)) (ha : avs E args = some as) (H : AYield P l as h (fun b h' => K (.v (.bool b)) h')) : AOp P o E h K := by
  intro ro a w hops hr
  have hres := resOp_sound ho
  generalize hop : o.op = op' at hres hops
  cases hres with
  | callv cl _ g1 =>
    have hvs := avs_rel (st := stab h w) (ρ := a.eval) ha fun y hy => hops y (by simp [Op.operands, Call.operands, g1]; exact .inr (by simpa using hy))
    have hgv := (hops g (by simp [Op.operands, Call.operands, g1]) _ hg).inv_v
    obtain ⟨r, x, y, hl, ⟨md1, hx⟩, ⟨md2, hy⟩, hlen, hps, hrun⟩ := H
    obtain ⟨ob, hob, fn, tmps, dd, rfl, q1, q2⟩ := hr l _ hl
    have hsz : (cl.args.map a.eval).size = r.ps.size := by
      have := hvs.length
      simp at this ⊢
      omega
    have hexec : (execOp a.eval o).run P w = _ := (run_yieldCall hop g1 hgv).trans (run_yield hob hsz)
    refine ⟨fun _ _ => trivial, ?_⟩
    rw [show (wideR ro).round = ro from rfl, semAt_run hexec (by simp), Oper.uponIn_round]
    refine ⟨fun hd => by simp [wideR] at hd, trivial, fun c cs _ => ?_⟩
    have hfold : (r.ps.zip (cl.args.map a.eval)).foldl (fun tmps (t, a) => tmps.setIfInBounds t a) tmps = ((r.ps.toList.zip (cl.args.toList.map a.eval)).foldl (fun tmps p => tmps.setIfInBounds p.1 p.2) tmps) := by
      rw [← Array.foldl_toList]; simp
    obtain ⟨he, hsz'⟩ := puts_rel r.ps.toList as (cl.args.toList.map a.eval) tmps r.E q2 hvs (fun t ht => by
      have := List.all_eq_true.1 hps t ht
      rw [q1]; simpa using this)
    simp only
    rw [hfold]
    let b : Frame := { (default : Frame) with fn := fn, kind := .normal, roundOf := some l }
    have hb0 : ∀ T : Array Value, Frame.round l fn T r.assign r.body .normal = b.atR { tmps := T, defers := [] } [.code r.assign, .beginRound, .code r.body] := fun T => by simp [Frame.round, Frame.atR, b]
    rw [hb0]
    obtain ⟨a4, w4, t4, j, E4, h4, ms4, s4, p1, ⟨r', p2, p2'⟩, p3, p4, p5⟩ := hrun [.code r.assign, .beginRound, .code r.body] (.cons (md := md1) (by simp [resT, hx]) (.cons (md := md1) (by simp [resT]) (.cons (md := md2) (by simp [resT, hy]) .nil)))
      [] { tmps := _, defers := [] } w ⟨rfl, hsz'.trans q1, he, hr⟩ b (c :: cs) rfl
    obtain ⟨ob', hob', fn', tmps', dd', rfl, q1', q2'⟩ := p3.rel l _ p2
    have hend := run_endRound (P := P) j hob'
    obtain ⟨hr5, hev5⟩ := p3.rel.putLoop (r' := { r' with state := if j.isNone then .ready else .done, pending := j }) (o' := .loop { state := if j.isNone then .ready else .done, pending := j, fn := fn', tmps := tmps', params := r'.ps, assign := r'.assign, body := r'.body, defers := dd' }) p2 ⟨fn', tmps', dd', rfl, q1', q2'⟩
    have slast : step P (lone (b.atR a4 t4) (c :: cs) w4) = .next (lone (c.finish (.bool j.isNone)) cs (w4.putObj l (.loop { state := if j.isNone then .ready else .done, pending := j, fn := fn', tmps := tmps', params := r'.ps, assign := r'.assign, body := r'.body, defers := dd' }))) := by
      cases j with
      | none =>
        have : t4 = [] := p1
        subst this
        exact stepR_round_end rfl rfl hend
      | some cd =>
        cases cd <;> simp only [Leaves] at p1
        case ret => obtain ⟨kk, rfl⟩ := p1; exact stepR_round_ret rfl rfl hend
        case exit id => obtain ⟨kk, rfl, hne⟩ := p1; exact stepR_round_exit rfl rfl hne hend
    refine ⟨.returned (.bool j.isNone), _, ⟨.bool j.isNone, .v (.bool j.isNone), _, rfl, p2', .v _, hr5, p4.trans hev5⟩, ?_⟩
    exact stepsIn_wide.2 (Steps.trans s4 (.one slast))
theorem R.yield {c : Cls} {g : Operand} {l : Nat} {args : List Operand} {as : List AV} {K : AV → AHeap → Prop} (hc : c = .act) (hg : aev E g = some (yieldV l)) (ha : avs E args = some as) (H : AYield P l as h (fun b h' => K (.v (.bool b)) h')) : ROpS P c (.callv g args) E h K := by
  subst hc
  intro o ho
  exact AOp.yield ho hg ha H
end
end Go.Av
