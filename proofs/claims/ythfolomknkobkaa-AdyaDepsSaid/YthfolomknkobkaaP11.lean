/-
  AdyaDeps answers true for every history
-/
import Derived.Test.YthfolomknkobkaaP10
set_option linter.unusedVariables false
namespace Go.Av
section
variable {P : Program} {c : Cls} {E : AEnv} {h : AHeap} {K : AV → AHeap → Prop}
theorem Rel.growRow {h : AHeap} {w : World} (hr : Rel h w) {b u s u' : Nat} {cur new : Array Value} {t : TypeId} (hb : h b = some (.grow u s)) (hw : w.heap[b]? = some (.cells cur t (0, 0))) (hu : u ≤ u') (hs : u' ≤ s)
    (hsz : new.size = s) (hkeep : ∀ i, i < u → new[i]? = cur[i]?) : Rel (h.set b (.grow u' s)) (w.setRow b new) ∧ Evol h w (h.set b (.grow u' s)) (w.setRow b new) := by
  have hrow : (w.setRow b new).heap[b]? = some (.cells new t (0, 0)) := setRow_heap w b cur new t (0, 0) hw
  have hle : (stab h w).le (stab (h.set b (.grow u' s)) (w.setRow b new)) := by
    intro a v ha
    by_cases hab : a.block = b
    · simp only [stab, hab, hb] at ha
      split at ha
      · rename_i hlt
        simp only [stab, hab, AHeap.set_same]
        rw [if_pos (by omega)]
        simp only [World.cell?, hab, hw, hrow] at ha ⊢
        split at ha
        · cases ha
        · rename_i hsp; rw [if_neg hsp, hkeep a.off hlt]; exact ha
      · cases ha
    · rw [stab_congr (h := h) (w := w) (AHeap.set_other h _ hab) (setRow_other w b a.block new hab)]
      exact ha
  refine ⟨hr.step (b := b) (fun x hx => AHeap.set_other h _ hx) (fun x hx _ => setRow_other w b x new hx) hle (fun o ho => ?_), ?_⟩
  · simp only [AHeap.set_same, Option.some.injEq] at ho
    subst ho
    exact ⟨_, hrow, new, t, rfl, hsz, hs⟩
  · refine ⟨rfl, rfl, rfl, by simp [World.setRow], hle, fun x hx hn => ?_⟩
    have hne : x ≠ b := fun e => by subst e; rw [hb] at hn; cases hn
    exact ⟨by rw [AHeap.set_other h _ hne]; exact hn, setRow_other w b x new hne⟩
theorem R.append {sz bytes : Nat} {zero : List Value} {x y : Operand} {d s : AV} {xs ys : List (List AV)} {c0 : Cap} {h₀ : AHeap} (hc : c = .act) (hx : aev E x = some d) (hd : Dst sz d xs c0) (hown : Own h₀ c0 h) (hy : aev E y = some s) (hs : Src sz s ys) (hone : ∀ e ∈ ys, ∀ a ∈ e, a.one = true)
    (hlen : xs.length + ys.length ≤ 4611686018427387904) (hroom : (xs.length + ys.length) * bytes ≤ 140737488355328) (hk : ∀ c' h', Own h₀ c' h' → K (.sl sz (xs ++ ys) c') h') : ROpS P c (.append sz bytes zero x y) E h K := by
  subst hc
  intro oo ho
  refine AOp.act fun ρ w hops hr => ?_
  have hres := resOp_sound ho
  generalize hop : oo.op = op' at hres hops
  cases hres with
  | append cl _ _ t u e i z g1 g2 g3 g4 g5 g6 g7 g8 g9 =>
    have e1 := hd.rel (hops x (by simp [Op.operands, Call.operands, g1, g2]) _ hx)
    have e2 := hops y (by simp [Op.operands, Call.operands, g1, g2]) _ hy
    obtain ⟨news, n1, n2, n3, n4, n5⟩ := hs.reads (P := P) e2 hone w (fun a v => stab_cell)
    have hsrc : srcType P u := g5
    have drewle : ∀ a v, stab h w a = some v → w.drew.cell? a = some v := fun a v ha => by simpa using stab_cell ha
    have hmaxlen : xs.length + ys.length ≤ maxLen := by simp only [maxLen]; omega
    generalize hux : ρ x = ux at e1
    by_cases hys : ys = []
    · subst hys
      simp only [List.length_nil] at n1 n2
      have n2' := n2 w (fun a v => stab_cell)
      have hnews : news = [] := by cases n3; rfl
      subst hnews
      have hK := hk c0 h hown
      rw [List.append_nil] at hK
      cases e1 with
      | nil _ _ aa hpl => exact ⟨_, w, _, h, run_call_builtin hop g1 g2 g3 rfl ρ w (by rw [hux]; exact run_append_none g4 hsrc g6 aa 0 0 (ρ y) w n1 n2' (Nat.le_refl _)), hK, .nil _ _ _ hpl, hr, .refl _ _⟩
      | sl _ _ _ b off cap vs k1 k2 k3 k4 k5 k6 =>
        exact ⟨_, w, _, h, run_call_builtin hop g1 g2 g3 rfl ρ w (by rw [hux]; exact run_append_none g4 hsrc g6 _ _ _ (ρ y) w n1 n2' k4), hK, .sl _ xs _ b off cap vs k1 k2 k3 k4 k5 k6, hr, .refl _ _⟩
    · have hpos : 0 < ys.length := List.length_pos_iff.2 hys
      cases e1 with
      | nil _ _ aa hpl =>
        have hc0 : c0 = .full ∧ h₀ = h := by cases hown with | full => exact ⟨rfl, rfl⟩ | tok hb => exact hpl.elim
        obtain ⟨rfl, rfl⟩ := hc0
        have hrun := run_append_new (ty := oo.type) g4 hsrc g6 g7 aa 0 0 ys.length (ρ y) [] news w n1 (by cases aa <;> first | (simp [Builtin.firstCells]; done) | (simp [Builtin.firstCells]; rfl)) (n2 w.drew drewle) (by omega) (by simp at hlen; omega) (by simpa using hroom)
        have hval := (append_new_val (h := h₀) (w := w.drew) (sz := i.size) (xs := []) (ys := ys) (olds := []) (news := news) (e := e) (z := z) (need := 0 + ys.length) (cap := grownCap w (0 + ys.length) 0 e) hr.drew (by rw [stab_drew]; exact .nil) (by rw [stab_drew]; exact n3) (by simp) n4 (by simp)
          (grownCap_ge w _ _ _) (grownCap_le_maxLen w _ _ _ (by simpa using hmaxlen)) g8).1 _ _ rfl rfl
        simp only [World.size_drew] at hval
        exact ⟨_, _, _, _, run_call_builtin hop g1 g2 g3 rfl ρ w (by rw [hux]; exact hrun), hk _ _ (.tok hr.fresh), hval.1, hval.2.1, (Evol.drew h₀ w).trans hval.2.2⟩
      | sl _ _ _ b off cap vs k1 k2 k3 k4 k5 k6 =>
        have hl : vs.length = xs.length * i.size := by rw [← k1.length, flatten_length xs k3]
        -- a new row
        have grown : cap < xs.length + ys.length → ∃ u w' x' h', (execOp ρ oo).run P w = .ok (.value u) w' ∧ K x' h' ∧ VRel (stab h' w') x' u ∧ Rel h' w' ∧ Evol h w h' w' := by
          intro hlt
          obtain ⟨hr0, hev0⟩ := hown.drop hr
          have hrun := run_append_new (ty := oo.type) g4 hsrc g6 g7 (some ⟨b, off, none⟩) xs.length cap ys.length (ρ y) vs news w n1
            (run_firstCells_some (P := P) w.drew i.size xs.length ⟨b, off, none⟩ xs.length cap vs hl (fun j v hj => by rw [Addr.add_lit]; exact drewle _ _ (k2 j v hj))) (n2 w.drew drewle) hlt (by omega) hroom
          have hval := (append_new_val (h := h₀) (w := w.drew) (sz := i.size) (xs := xs) (ys := ys) (olds := vs) (news := news) (e := e) (z := z) (need := xs.length + ys.length) (cap := grownCap w (xs.length + ys.length) cap e) hr0.drew
            (by rw [stab_drew]; exact k1.mono hev0.stab) (by rw [stab_drew]; exact n3.mono hev0.stab) k3 n4 rfl (grownCap_ge w _ _ _) (grownCap_le_maxLen w _ _ _ hmaxlen) g8).1 _ _ rfl rfl
          simp only [World.size_drew] at hval
          exact ⟨_, _, _, _, run_call_builtin hop g1 g2 g3 rfl ρ w (by rw [hux]; exact hrun), hk _ _ (.tok hr0.fresh), hval.1, hval.2.1, (hev0.trans (Evol.drew h₀ w)).trans hval.2.2⟩
        cases hown with
        | full =>
          have hcap : cap = xs.length := k6
          exact grown (by omega)
        | tok hb0 =>
          rename_i bb uu ss
          rcases Nat.lt_or_ge cap (xs.length + ys.length) with hlt | hge
          · exact grown hlt
          · obtain ⟨q1, q2, q3⟩ := k6
            subst q1
            obtain ⟨ob, hob, cc, tt, rfl, hcs, hus⟩ := hr _ _ (AHeap.set_same h₀ bb (.grow uu ss))
            have hnl : news.length = ys.length * i.size := by rw [← n3.length, flatten_length ys n4]
            have hfit : uu + news.length ≤ ss := by
              have : (xs.length + ys.length) * i.size ≤ cap * i.size := Nat.mul_le_mul_right _ hge
              rw [Nat.add_mul] at this
              omega
            have hrun := run_append_fit (ty := oo.type) g4 hsrc g6 bb off xs.length cap ys.length (ρ y) news w cc tt n1 (n2 w (fun a v => stab_cell)) hge hob (by omega) n5
            rw [q2] at hrun
            have hcclen : cc.toList.length = ss := by simpa using hcs
            have hgrow := hr.growRow (u' := uu + news.length) (new := (cc.toList.take uu ++ news ++ cc.toList.drop (uu + news.length)).toArray) (AHeap.set_same h₀ bb (.grow uu ss)) hob (by omega) hfit
              (by simp; omega)
              (fun j hj => by simp only [List.getElem?_toArray, List.append_assoc]; rw [List.getElem?_append_left (by simp; omega), List.getElem?_take, if_pos hj]; simp)
            rw [AHeap.set_set] at hgrow
            refine ⟨_, _, _, _, run_call_builtin hop g1 g2 g3 rfl ρ w (by rw [hux]; exact hrun), hk _ _ (.tok (u := uu + news.length) (s := ss) hb0), ?_, hgrow.1, hgrow.2⟩
            have hcells : VRels (stab (h₀.set bb (.grow (uu + news.length) ss)) (w.setRow bb (cc.toList.take uu ++ news ++ cc.toList.drop (uu + news.length)).toArray)) (xs ++ ys).flatten (vs ++ news) := by
              rw [List.flatten_append]
              exact (k1.mono hgrow.2.stab).append (n3.mono hgrow.2.stab)
            have hlenxy : (xs ++ ys).length = xs.length + ys.length := by simp
            have := VRel.sl (st := stab (h₀.set bb (.grow (uu + news.length) ss)) (w.setRow bb (cc.toList.take uu ++ news ++ cc.toList.drop (uu + news.length)).toArray)) i.size (xs ++ ys) (.tok bb (uu + news.length) ss) bb off cap (vs ++ news) hcells
              (fun j v hj => by
                rw [List.getElem?_append] at hj
                split at hj
                · exact hgrow.2.stab _ _ (k2 j v hj)
                · rename_i hnlt
                  have hjl := (List.getElem?_eq_some_iff.1 hj).1
                  simp only [stab, AHeap.set_same]
                  rw [if_pos (by omega)]
                  have hrow : (w.setRow bb (cc.toList.take uu ++ news ++ cc.toList.drop (uu + news.length)).toArray).heap[bb]? = some (.cells (cc.toList.take uu ++ news ++ cc.toList.drop (uu + news.length)).toArray tt (0, 0)) := setRow_heap w bb cc _ tt (0, 0) hob
                  rw [cell_of_cells hrow]
                  simp only [List.getElem?_toArray, List.append_assoc]
                  rw [List.getElem?_append_right (by simp; omega), List.getElem?_append_left (by simp; omega)]
                  have : off + j - (cc.toList.take uu).length = j - vs.length := by simp; omega
                  rw [this]
                  exact hj)
              (fun e he => (List.mem_append.1 he).elim (k3 e) (n4 e)) (by rw [hlenxy]; exact hge) k5 (by rw [hlenxy]; exact ⟨rfl, by rw [Nat.add_mul]; omega, q3⟩)
            rw [hlenxy] at this
            exact this
theorem callsIn_wideR {ro : Option Nat} {n : Nat} {f : FuncId} {args : Array Value} {w : World} {R : Ending → World → Prop} (h : Calls P f args w R) : CallsIn (wideR ro) n P f args w R :=
  callsIn_wide (n := n).2 h
theorem AOp.call {o : Oper} {f : FuncId} {args : List AV} (H : ∀ (ρ : Operand → Value) w, (∀ y ∈ o.op.operands, ∀ av, aev E y = some av → VRel (stab h w) av (ρ y)) → Rel h w →
    ∃ vs : List Value, (execOp ρ o).run P w = .ok (.enter f vs.toArray) w ∧ VRels (stab h w) args vs) (hcall : ACalls P f args h K) : AOp P o E h K := by
  intro ro a w hops hr
  obtain ⟨vs, h1, h2⟩ := H a.eval w hops hr
  refine ⟨fun _ _ => trivial, ?_⟩
  rw [show (wideR ro).round = ro from rfl, semAt_run h1 (by simp)]
  rw [Oper.uponIn_enter]
  refine ⟨fun h => ?_, callsIn_wideR ((hcall vs w h2 hr).mono fun e w' ⟨u, x, h', he, hk, hv, hr', hev⟩ => by subst he; exact ⟨u, x, h', rfl, hk, hv, hr', hev⟩)⟩
  simp [wideR] at h
def avs (E : AEnv) : List Operand → Option (List AV)
  | [] => some []
  | x :: xs => match aev E x, avs E xs with | some a, some l => some (a :: l) | _, _ => none
theorem avs_rel {st : Store} {ρ : Operand → Value} : ∀ {xs : List Operand} {as : List AV}, avs E xs = some as → (∀ y ∈ xs, ∀ av, aev E y = some av → VRel st av (ρ y)) → VRels st as (xs.map ρ)
  | [], as, h, _ => by simp [avs] at h; subst h; exact .nil
  | x :: xs, as, h, hops => by
    simp only [avs] at h
    split at h
    · rename_i a l h1 h2
      simp only [Option.some.injEq] at h
      subst h
      exact .cons (hops x (by simp) a h1) (avs_rel h2 fun y hy => hops y (by simp [hy]))
    · cases h
theorem run_callFunc' {f : FuncId} (hp : plainCallee P f = true) (vs : Array Value) (w : World) : (callFunc f vs).run P w = .ok (.enter f vs) w := by
  unfold plainCallee at hp
  cases hf : P.funcs[f]? with
  | none => simp [hf] at hp
  | some fn =>
    simp only [hf, Option.any_some, Bool.and_eq_true, Bool.not_eq_true'] at hp
    obtain ⟨h1, h2⟩ := hp
    have h3 : fn.body.isNone = false := by cases hb : fn.body <;> simp_all
    have hprog : (program).run P w = .ok P w := rfl
    simp only [callFunc, Sem.run_bind, hprog, Result.andThen_ok, hf, h2, h3, Bool.false_eq_true, if_false, Sem.run_pure]
theorem call_enter {o : Oper} {f : FuncId} {args : List Operand} {as : List AV} (ho : resOp P o = some (.call f args)) (ha : avs E args = some as) :
    ∀ (ρ : Operand → Value) w, (∀ y ∈ o.op.operands, ∀ av, aev E y = some av → VRel (stab h w) av (ρ y)) → Rel h w → ∃ vs : List Value, (execOp ρ o).run P w = .ok (.enter f vs.toArray) w ∧ VRels (stab h w) as vs := by
  intro ρ w hops hr
  have hres := resOp_sound ho
  generalize hop : o.op = op' at hres hops
  cases hres with
  | call cl _ g1 g2 =>
    refine ⟨cl.args.toList.map ρ, ?_, avs_rel ha fun y hy => hops y (by simp [Op.operands, Call.operands, g1]; exact .inr (by simpa using hy))⟩
    have hf := (hops (.func f) (by simp [Op.operands, Call.operands, g1]) _ rfl).inv_v
    have hmap : cl.args.map ρ = (cl.args.toList.map ρ).toArray := by rw [← List.map_toArray, Array.toArray_toList]
    simp only [execOp, hop, resolve, g1, Sem.run_bind, hf, Deferred.ofValue, Sem.run_pure, Result.andThen_ok, invoke, Array.append_empty, Array.empty_append, run_callFunc' g2, hmap]
theorem R.call {f : FuncId} {args : List Operand} {as : List AV} (hc : c = .act) (ha : avs E args = some as) (hk : ACalls P f as h K) : ROpS P c (.call f args) E h K := by
  subst hc
  intro o ho
  exact AOp.call (call_enter ho ha) hk
theorem R.callQ {f : FuncId} {args : List Operand} {as : List AV} {x : AV} (hc : c ≠ .pure) (ha : avs E args = some as) (hcall : ACalls P f as h (fun x' h' => x' = x ∧ h' = h)) (hk : K x h) : ROpS P c (.call f args) E h K := by
  intro o ho
  cases c with
  | pure => exact absurd rfl hc
  | read => exact ⟨x, AOp.call (call_enter ho ha) hcall, hk⟩
  | act => exact AOp.call (call_enter ho ha) (hcall.mono fun x' h' ⟨e1, e2⟩ => by subst e1; subst e2; exact hk)
theorem callv_enter {o : Oper} {g : Operand} {f : FuncId} {first captured : Array Value} {args : List Operand} {as : List AV} (ho : resOp P o = some (.callv g args)) (hg : aev E g = some (.v (.func (.func f) first captured))) (hp : plainCallee P f = true) (ha : avs E args = some as) :
    ∀ (ρ : Operand → Value) w, (∀ y ∈ o.op.operands, ∀ av, aev E y = some av → VRel (stab h w) av (ρ y)) → Rel h w →
      ∃ vs : List Value, (execOp ρ o).run P w = .ok (.enter f vs.toArray) w ∧ VRels (stab h w) (first.toList.map .v ++ as ++ captured.toList.map .v) vs := by
  intro ρ w hops hr
  have hres := resOp_sound ho
  generalize hop : o.op = op' at hres hops
  cases hres with
  | callv cl _ g1 =>
    have hr := avs_rel (st := stab h w) (ρ := ρ) ha fun y hy => hops y (by simp [Op.operands, Call.operands, g1]; exact .inr (by simpa using hy))
    refine ⟨first.toList ++ cl.args.toList.map ρ ++ captured.toList, ?_, ((VRels.map_v _).append hr).append (VRels.map_v _)⟩
    have hf := (hops g (by simp [Op.operands, Call.operands, g1]) _ hg).inv_v
    simp only [execOp, hop, resolve, g1, Sem.run_bind, hf, Deferred.ofValue, Sem.run_pure, Result.andThen_ok, invoke, run_callFunc' hp]
    simp
theorem R.callv {g : Operand} {f : FuncId} {first captured : Array Value} {args : List Operand} {as : List AV} (hc : c = .act) (hg : aev E g = some (.v (.func (.func f) first captured))) (hp : plainCallee P f = true) (ha : avs E args = some as)
    (hk : ACalls P f (first.toList.map .v ++ as ++ captured.toList.map .v) h K) : ROpS P c (.callv g args) E h K := by
  subst hc
  intro o ho
  exact AOp.call (callv_enter ho hg hp ha) hk
theorem callA_enter {o : Oper} {g : Operand} {f : FuncId} {first captured : List AV} {args : List Operand} {as : List AV} (ho : resOp P o = some (.callv g args)) (hg : aev E g = some (.fn (.func f) first captured)) (hp : plainCallee P f = true) (ha : avs E args = some as) :
    ∀ (ρ : Operand → Value) w, (∀ y ∈ o.op.operands, ∀ av, aev E y = some av → VRel (stab h w) av (ρ y)) → Rel h w →
      ∃ vs : List Value, (execOp ρ o).run P w = .ok (.enter f vs.toArray) w ∧ VRels (stab h w) (first ++ as ++ captured) vs := by
  intro ρ w hops hr
  have hres := resOp_sound ho
  generalize hop : o.op = op' at hres hops
  cases hres with
  | callv cl _ g1 =>
    have hr := avs_rel (st := stab h w) (ρ := ρ) ha fun y hy => hops y (by simp [Op.operands, Call.operands, g1]; exact .inr (by simpa using hy))
    have hf := hops g (by simp [Op.operands, Call.operands, g1]) _ hg
    generalize hu : ρ g = u at hf
    cases hf with
    | fn _ _ _ us vs h1 h2 =>
      refine ⟨us.toList ++ cl.args.toList.map ρ ++ vs.toList, ?_, (h1.append hr).append h2⟩
      simp only [execOp, hop, resolve, g1, Sem.run_bind, hu, Deferred.ofValue, Sem.run_pure, Result.andThen_ok, invoke, run_callFunc' hp]
      simp
theorem R.callAQ {g : Operand} {f : FuncId} {first captured : List AV} {args : List Operand} {as : List AV} {x : AV} (hc : c ≠ .pure) (hg : aev E g = some (.fn (.func f) first captured)) (hp : plainCallee P f = true) (ha : avs E args = some as)
    (hcall : ACalls P f (first ++ as ++ captured) h (fun x' h' => x' = x ∧ h' = h)) (hk : K x h) : ROpS P c (.callv g args) E h K := by
  intro o ho
  cases c with
  | pure => exact absurd rfl hc
  | read => exact ⟨x, AOp.call (callA_enter ho hg hp ha) hcall, hk⟩
  | act => exact AOp.call (callA_enter ho hg hp ha) (hcall.mono fun x' h' ⟨e1, e2⟩ => by subst e1; subst e2; exact hk)
def atoms (E : AEnv) : List Operand → Option (List Value)
  | [] => some []
  | x :: xs => match aev E x, atoms E xs with | some (.v a), some l => some (a :: l) | _, _ => none
theorem atoms_eq {st : Store} {ρ : Operand → Value} : ∀ {xs : List Operand} {as : List Value}, atoms E xs = some as → (∀ y ∈ xs, ∀ av, aev E y = some av → VRel st av (ρ y)) → xs.map ρ = as
  | [], as, h, _ => by simp [atoms] at h; subst h; rfl
  | x :: xs, as, h, hops => by
    simp only [atoms] at h
    split at h
    · rename_i a l h1 h2
      simp only [Option.some.injEq] at h
      subst h
      rw [List.map_cons, (hops x (by simp) _ h1).inv_v, atoms_eq h2 fun y hy => hops y (by simp [hy])]
    · cases h
theorem R.makeFunc {fn : Fn} {first captured : List Operand} {a b : List Value} (ha : atoms E first = some a) (hb : atoms E captured = some b) (hk : K (.v (.func fn a.toArray b.toArray)) h) : ROpS P c (.makeFunc fn first captured) E h K :=
  ROpS.of_pure (fun oo ho h' => AOp.value fun ρ w hops hr => by
    have hres := resOp_sound ho
    generalize hop : oo.op = op' at hres hops
    cases hres with
    | makeFunc _ xs ys =>
      have e1 := atoms_eq (st := stab h' w) (ρ := ρ) ha fun y hy => hops y (Array.mem_append_left _ (Array.mem_toList_iff.1 hy))
      have e2 := atoms_eq (st := stab h' w) (ρ := ρ) hb fun y hy => hops y (Array.mem_append_right _ (Array.mem_toList_iff.1 hy))
      have e1' : xs.map ρ = a.toArray := by rw [← e1, ← List.map_toArray, Array.toArray_toList]
      have e2' : ys.map ρ = b.toArray := by rw [← e2, ← List.map_toArray, Array.toArray_toList]
      exact ⟨_, by simp only [execOp, hop, Instr.makeFunc, Sem.run_bind, e1', e2', Sem.run_pure, Result.andThen_ok], .v _⟩) hk
theorem R.makeFuncA {fn : Fn} {first captured : List Operand} {a b : List AV} (ha : avs E first = some a) (hb : avs E captured = some b) (hk : K (.fn fn a b) h) : ROpS P c (.makeFunc fn first captured) E h K :=
  ROpS.of_pure (fun oo ho h' => AOp.value fun ρ w hops hr => by
    have hres := resOp_sound ho
    generalize hop : oo.op = op' at hres hops
    cases hres with
    | makeFunc _ xs ys =>
      have e1 := avs_rel (st := stab h' w) (ρ := ρ) ha fun y hy => hops y (Array.mem_append_left _ (Array.mem_toList_iff.1 hy))
      have e2 := avs_rel (st := stab h' w) (ρ := ρ) hb fun y hy => hops y (Array.mem_append_right _ (Array.mem_toList_iff.1 hy))
      exact ⟨.func fn (xs.map ρ) (ys.map ρ), by simp only [execOp, hop, Instr.makeFunc, Sem.run_bind, Sem.run_pure, Result.andThen_ok], .fn _ _ _ _ _ (by simpa using e1) (by simpa using e2)⟩) hk
def minInt : List Int → Int → Int
  | [], m => m
  | y :: r, m => minInt r (if y < m then y else m)
def maxInt : List Int → Int → Int
  | [], m => m
  | y :: r, m => maxInt r (if y > m then y else m)
def ints (E : AEnv) : List Operand → Option (List (IntKind × Int))
  | [] => some []
  | x :: xs => match aev E x, ints E xs with | some (.v (.int k n)), some l => some ((k, n) :: l) | _, _ => none
theorem ints_eq {st : Store} {ρ : Operand → Value} : ∀ {xs : List Operand} {as : List (IntKind × Int)}, ints E xs = some as → (∀ y ∈ xs, ∀ av, aev E y = some av → VRel st av (ρ y)) → xs.map ρ = as.map fun p => .int p.1 p.2
  | [], as, h, _ => by simp [ints] at h; subst h; rfl
  | x :: xs, as, h, hops => by
    simp only [ints] at h
    split at h
    · rename_i k n l h1 h2
      simp only [Option.some.injEq] at h
      subst h
      rw [List.map_cons, (hops x (by simp) _ h1).inv_v, ints_eq h2 fun y hy => hops y (by simp [hy])]
      rfl
    · cases h
theorem run_min_fold (w : World) : ∀ (l : List (IntKind × Int)) (k : IntKind) (m : Int), ((l.map fun p => Value.int p.1 p.2).foldlM Builtin.min2 (.int k m)).run P w = .ok (.int k (minInt (l.map (·.2)) m)) w
  | [], k, m => rfl
  | (j, y) :: l, k, m => by
    simp only [List.map_cons, List.foldlM_cons, Sem.run_bind, Builtin.min2, Sem.run_pure, Result.andThen_ok, run_min_fold w l, minInt]
theorem run_max_fold (w : World) : ∀ (l : List (IntKind × Int)) (k : IntKind) (m : Int), ((l.map fun p => Value.int p.1 p.2).foldlM Builtin.max2 (.int k m)).run P w = .ok (.int k (maxInt (l.map (·.2)) m)) w
  | [], k, m => rfl
  | (j, y) :: l, k, m => by
    simp only [List.map_cons, List.foldlM_cons, Sem.run_bind, Builtin.max2, Sem.run_pure, Result.andThen_ok, run_max_fold w l, maxInt]
theorem R.minmax {isMax : Bool} {xs : List Operand} {k : IntKind} {m : Int} {l : List (IntKind × Int)} (hx : ints E xs = some ((k, m) :: l)) (hk : K (.v (.int k (if isMax then maxInt (l.map (·.2)) m else minInt (l.map (·.2)) m))) h) : ROpS P c (.minmax isMax xs) E h K :=
  ROpS.of_pure (fun oo ho h' => AOp.value fun ρ w hops hr => by
    have hres := resOp_sound ho
    generalize hop : oo.op = op' at hres hops
    cases hres with
    | minmax cl _ g1 =>
      have e1 := ints_eq (st := stab h' w) (ρ := ρ) hx fun y hy => hops y (by cases isMax <;> simp [Op.operands, Call.operands, g1] <;> simpa using hy)
      have e1' : (cl.args.map ρ).toList = (.int k m) :: (l.map fun p => .int p.1 p.2) := by rw [Array.toList_map, e1]; rfl
      refine ⟨_, ?_, .v _⟩
      cases isMax with
      | true =>
        simp only [if_true] at g1
        simp only [execOp, hop, resolve, g1, Sem.run_bind, Sem.run_pure, Result.andThen_ok, invoke, builtin, Builtin.max_, e1', run_max_fold, if_true]
      | false =>
        simp only [Bool.false_eq_true, if_false] at g1
        simp only [execOp, hop, resolve, g1, Sem.run_bind, Sem.run_pure, Result.andThen_ok, invoke, builtin, Builtin.min_, e1', run_min_fold, Bool.false_eq_true, if_false]) hk
def resSem (tmps : Array Value) (r : ResultVar) : Sem Value :=
  match r with
  | .tmp t => pure (tmps.getD t undef)
  | .cell c t => do loadVar t (← asAddr (tmps.getD c undef))
theorem results_eq (fn : Func) (tmps : Array Value) : results fn tmps = (do let vs ← fn.results.mapM (resSem tmps); pure (if h : vs.size = 1 then vs[0] else .tuple vs)) := rfl
theorem results_rel {fn : Func} {rs : List RRes} (hrs : resRes P fn.results.toList = some rs) {h : AHeap} {n : Nat} {ds : List Deferred} {a : Act} {w : World} (hs : St n ds E h a w) {xs : List AV} (hx : resAVs E h rs = some xs) :
    ∃ u, (results fn a.tmps).run P w = .ok u w ∧ VRel (stab h w) (packAV xs) u := by
  have key : ∀ (l : List ResultVar) (rs : List RRes) (xs : List AV), resRes P l = some rs → resAVs E h rs = some xs →
      ∃ us : List Value, (l.mapM (resSem a.tmps)).run P w = .ok us w ∧ VRels (stab h w) xs us := by
    intro l
    induction l with
    | nil => intro rs xs h1 h2; simp [resRes] at h1; subst h1; simp [resAVs] at h2; subst h2; exact ⟨[], by simp, .nil⟩
    | cons r l ih =>
      intro rs xs h1 h2
      cases r with
      | tmp t =>
        simp only [resRes, Option.map_eq_some_iff] at h1
        obtain ⟨rs', h1, rfl⟩ := h1
        simp only [resAVs, resAV] at h2
        split at h2
        · rename_i x l' g1 g2
          simp only [Option.some.injEq] at h2
          subst h2
          obtain ⟨us, h3, h4⟩ := ih rs' l' h1 g2
          obtain ⟨u, h5, h6⟩ := hs.env t x g1
          have hg : a.tmps.getD t undef = u := by simp [h5]
          exact ⟨u :: us, by simp only [List.mapM_cons, Sem.run_bind, resSem, hg, Sem.run_pure, Result.andThen_ok, h3], .cons h6 h4⟩
        · cases h2
      | cell t ty =>
        simp only [resRes] at h1
        split at h1
        · rename_i ag s rs' ha hsz hl
          simp only [Option.some.injEq] at h1
          subst h1
          simp only [resAVs] at h2
          split at h2
          · rename_i x l' g1 g2
            simp only [Option.some.injEq] at h2
            subst h2
            obtain ⟨us, h3, h4⟩ := ih rs' l' hl g2
            simp only [resAV] at g1
            split at g1
            · rename_i b off hE
              split at g1
              · rename_i cs hb
                obtain ⟨u0, h5, h6⟩ := hs.env t _ hE
                obtain rfl := h6.inv_v
                obtain ⟨y, hy, cc, tyy, rfl, hv⟩ := hs.rel b _ hb
                have hl : loadAV ag s (cs.drop off) = some x ∨ (ag = false ∧ cs[off]? = some x) := by
                  unfold loadAV
                  cases ag with
                  | true => left; simp only [if_true] at g1 ⊢; split at g1 <;> simp_all; omega
                  | false => exact .inr ⟨rfl, by simpa using g1⟩
                have hcell : ∀ i u, (cc.toList.drop off)[i]? = some u → w.cell? ⟨b, off + i, none⟩ = some u := fun i u hi => by
                  rw [cell_of_cells hy]; rw [List.getElem?_drop] at hi; simpa using hi
                obtain ⟨u, h7, h8⟩ : ∃ u, (loadVar ty ⟨b, off, none⟩).run P w = .ok u w ∧ VRel (stab h w) x u := by
                  rcases hl with hl | ⟨rfl, hl⟩
                  · exact load_rel ha hsz (hv.drop off) hcell hl
                  · obtain ⟨u, hu, hru⟩ := hv.get hl
                    refine ⟨u, ?_, hru⟩
                    have hc0 : w.cell? ⟨b, off, none⟩ = some u := by rw [cell_of_cells hy]; simpa using hu
                    simp [loadVar, run_isAgg ha, load, Sem.run, hc0]
                have hg : a.tmps.getD t undef = .pointer (some ⟨b, off, none⟩) := by simp [h5]
                have hone : (resSem a.tmps (.cell t ty)).run P w = .ok u w := by simp only [resSem, Sem.run_bind, hg, asAddr, Sem.run_pure, Result.andThen_ok, h7]
                exact ⟨u :: us, by simp only [List.mapM_cons, Sem.run_bind, hone, Sem.run_pure, Result.andThen_ok, h3], .cons h8 h4⟩
              · cases g1
            · cases g1
          · cases h2
        · cases h1
  obtain ⟨us, h1, h2⟩ := key _ rs xs hrs hx
  have hm : (fn.results.mapM (resSem a.tmps)).run P w = .ok us.toArray w := by
    rw [← Array.toArray_toList (xs := fn.results), List.mapM_toArray]
    simp [h1]
  have hlen := h2.length
  rw [results_eq]
  rcases us with _ | ⟨u, _ | ⟨u2, us⟩⟩
  · cases h2
    exact ⟨.tuple #[], by simp only [Sem.run_bind, hm, Result.andThen_ok]; simp, by simpa [packAV] using VRel.tu (st := stab h w) [] #[] .nil⟩
  · cases h2 with
    | cons g1 g2 => cases g2; exact ⟨u, by simp only [Sem.run_bind, hm, Result.andThen_ok]; simp, by simpa [packAV] using g1⟩
  · refine ⟨.tuple (u :: u2 :: us).toArray, by simp only [Sem.run_bind, hm, Result.andThen_ok]; simp, ?_⟩
    rcases xs with _ | ⟨x, _ | ⟨x2, xs⟩⟩ <;> simp at hlen
    exact .tu _ _ (by simpa using h2)
end
end Go.Av
