/-
  AdyaDeps answers true for every history
-/
import Derived.Test.YthfolomknkobkaaP23
set_option linter.unusedVariables false
namespace Go.Av
def envSub (l m : EEnv) : Bool := l.all fun p => match EEnv.get l p.1, EEnv.get m p.1 with | some a, some b => EV.beq a b | _, _ => false
theorem get_mem : ∀ {l : EEnv} {t : Nat} {e : EV}, EEnv.get l t = some e → ∃ p ∈ l, p.1 = t
  | [], t, e, h => by simp [EEnv.get] at h
  | (k, x) :: r, t, e, h => by
    simp only [EEnv.get] at h
    split at h
    · rename_i hb; exact ⟨_, List.mem_cons_self .., (Nat.eq_of_beq_eq_true hb).symm⟩
    · obtain ⟨p, h1, h2⟩ := get_mem h; exact ⟨p, List.mem_cons_of_mem _ h1, h2⟩
theorem envSub_ok {l m : EEnv} (h : envSub l m = true) {ρ : Ren} {E : AEnv} (ho : EnvOk ρ m E) : EnvOk ρ l E := fun t e he => by
  obtain ⟨p, hp, rfl⟩ := get_mem he
  have := List.all_eq_true.1 h p hp
  rw [he] at this
  cases hm : EEnv.get m p.1 with
  | none => rw [hm] at this; cases this
  | some b =>
    rw [hm] at this
    have := EV.beq_eq this
    subst this
    exact ho _ _ hm
def wantE (l : EEnv) (i : RItem) : Option Bool :=
  match i.guard with
  | none => some true
  | some (t, b) =>
    match EEnv.get l t with
    | some (.k (.bool x)) => some (x == b)
    | some (.k _) => some false
    | _ => none
theorem wantE_ok {ρ : Ren} {l : EEnv} {E : AEnv} (ho : EnvOk ρ l E) {i : RItem} {b : Bool} (h : wantE l i = some b) : i.want E = some b := by
  unfold wantE at h
  unfold RItem.want
  cases hg : i.guard with
  | none => simp only [hg] at h ⊢; exact h
  | some p =>
    obtain ⟨t, w⟩ := p
    simp only [hg] at h ⊢
    split at h
    · rename_i x hx
      obtain ⟨a, h1, h2⟩ := ho _ _ hx
      cases h2
      simp only [h1]; exact h
    · rename_i v hne hv
      obtain ⟨a, h1, h2⟩ := ho _ _ hv
      cases h2
      cases h
      simp only [h1]
    · cases h
section
variable {P : Program} {h₀ : AHeap} {kk : Kx} {call : CallE}
def evalItems (kk : Kx) (call : CallE) : List RItem → EEnv → List EBlk → Option (EEnv × List EBlk)
  | [], l, H => some (l, H)
  | i :: r, l, H =>
    match wantE l i with
    | some true => (match evalOp kk call i.cls l H i.op with | some (e, H') => evalItems kk call r (EEnv.put l i.dst e) H' | none => none)
    | some false => evalItems kk call r (EEnv.put l i.dst (.k undef)) H
    | none => none
theorem ROpS.mono {c : Cls} {r : ROp} {E : AEnv} {h : AHeap} {K K' : AV → AHeap → Prop} (H : ROpS P c r E h K) (hk : ∀ x h', K x h' → K' x h') : ROpS P c r E h K' := fun o ho => (H o ho).mono hk
structure EvOk (P : Program) (kk : Kx) (call : CallE) : Prop where
  hkk : KkOk P kk
  hcall : CallOk P call
  hplain : ∀ f args H x H', call f args H = some (x, H') → plainCallee P f = true
theorem evalItems_sound (ok : EvOk P kk call) {K : AEnv → AHeap → Prop} : ∀ {items : List RItem} {l : EEnv} {H : List EBlk} {l' : EEnv} {H' : List EBlk}, evalItems kk call items l H = some (l', H') →
    ∀ {ρ : Ren} {E : AEnv} {h : AHeap}, EnvOk ρ l E → Hp ρ H h₀ h → (∀ ρ' E' h', ρ.le ρ' → EnvOk ρ' l' E' → Hp ρ' H' h₀ h' → K E' h') → RChain P items E h K
  | [], l, H, l', H', he, ρ, E, h, ho, hp, hk => by
    simp only [evalItems, Option.some.injEq, Prod.mk.injEq] at he
    obtain ⟨rfl, rfl⟩ := he
    exact hk ρ E h (.refl ρ) ho hp
  | i :: r, l, H, l', H', he, ρ, E, h, ho, hp, hk => by
    simp only [evalItems] at he
    simp only [RChain]
    split at he
    · rename_i hw
      rw [wantE_ok ho hw]
      split at he
      · rename_i e H1 hop
        refine (evalOp_sound ok.hkk ok.hcall ok.hplain hop ho hp).mono fun x h' ⟨ρ1, g1, g2, g3⟩ => ?_
        exact evalItems_sound ok he ((ho.mono g1).put g3) g2 fun ρ' E' h'' q1 q2 q3 => hk ρ' E' h'' (g1.trans q1) q2 q3
      · cases he
    · rename_i hw
      rw [wantE_ok ho hw]
      exact evalItems_sound ok he (ho.put (.k undef)) hp hk
    · cases he
def evalTree (kk : Kx) (call : CallE) : RTree → EEnv → List EBlk → Option (List (EEnv × List EBlk))
  | .done, l, H => some [(l, H)]
  | .stop, _, _ => some []
  | .step i t, l, H => match evalItems kk call [i] l H with | some (l', H') => evalTree kk call t l' H' | none => none
  | .alt i t r, l, H =>
    match evalItems kk call [i] l H with
    | some (l', H') => (match evalTree kk call t l' H', evalTree kk call r l H with | some a, some b => some (a ++ b) | _, _ => none)
    | none => none
theorem evalTree_sound (ok : EvOk P kk call) {K : AEnv → AHeap → Prop} : ∀ {t : RTree} {l : EEnv} {H : List EBlk} {L : List (EEnv × List EBlk)}, evalTree kk call t l H = some L →
    ∀ {ρ : Ren} {E : AEnv} {h : AHeap}, EnvOk ρ l E → Hp ρ H h₀ h → (∀ p ∈ L, ∀ ρ' E' h', ρ.le ρ' → EnvOk ρ' p.1 E' → Hp ρ' p.2 h₀ h' → K E' h') → RTreeS P K t E h
  | .done, l, H, L, he, ρ, E, h, ho, hp, hk => by
    simp only [evalTree, Option.some.injEq] at he
    subst he
    exact hk _ (List.mem_singleton.2 rfl) ρ E h (.refl ρ) ho hp
  | .stop, l, H, L, he, ρ, E, h, ho, hp, hk => trivial
  | .step i t, l, H, L, he, ρ, E, h, ho, hp, hk => by
    simp only [evalTree] at he
    split at he
    · rename_i l1 H1 h1
      exact evalItems_sound ok h1 ho hp fun ρ1 E1 h1' g1 g2 g3 => evalTree_sound ok he g2 g3 fun p hpL ρ' E' h' q1 q2 q3 => hk p hpL ρ' E' h' (g1.trans q1) q2 q3
    · cases he
  | .alt i t r, l, H, L, he, ρ, E, h, ho, hp, hk => by
    simp only [evalTree] at he
    split at he
    · rename_i l1 H1 h1
      split at he
      · rename_i a b ha hb
        cases he
        exact ⟨evalItems_sound ok h1 ho hp fun ρ1 E1 h1' g1 g2 g3 => evalTree_sound ok ha g2 g3 fun p hpL ρ' E' h' q1 q2 q3 => hk p (List.mem_append_left _ hpL) ρ' E' h' (g1.trans q1) q2 q3,
          evalTree_sound ok hb ho hp fun p hpL => hk p (List.mem_append_right _ hpL)⟩
      · cases he
    · cases he
def resE (l : EEnv) (H : List EBlk) : RRes → Option EV
  | .tmp t => EEnv.get l t
  | .cell t agg sz =>
    match EEnv.get l t with
    | some (.pt i off) =>
      match H[i]? with
      | some (.box cs) => if agg then (if off + sz ≤ cs.length then some (.ag ((cs.drop off).take sz)) else none) else cs[off]?
      | _ => none
    | _ => none
def resEs (l : EEnv) (H : List EBlk) : List RRes → Option (List EV)
  | [] => some []
  | r :: rs => match resE l H r, resEs l H rs with | some x, some l => some (x :: l) | _, _ => none
def packE : List EV → EV
  | [x] => x
  | l => .tu l
theorem resE_ok {ρ : Ren} {l : EEnv} {E : AEnv} {H : List EBlk} {h : AHeap} (ho : EnvOk ρ l E) (hp : Hp ρ H h₀ h) {r : RRes} {e : EV} (he : resE l H r = some e) : ∃ a, resAV E h r = some a ∧ RV ρ e a := by
  cases r with
  | tmp t => exact ho t e he
  | cell t agg sz =>
    simp only [resE] at he
    split at he
    · rename_i i off hx
      split at he
      · rename_i cs hH
        obtain ⟨a, h1, h2⟩ := ho _ _ hx
        cases h2 with
        | pt _ hb =>
          obtain ⟨b', as, g1, g2, g3⟩ := hp.box i cs hH
          rw [hb] at g1; cases g1
          simp only [resAV, h1, g3]
          have hlen : (as ++ ρ.t i).length = as.length + (ρ.t i).length := List.length_append
          cases agg with
          | true =>
            simp only [if_true] at he ⊢
            split at he <;> cases he
            rename_i hl
            exact ⟨_, by rw [if_pos (by rw [hlen, g2.length]; omega), List.drop_append_of_le_length (by rw [g2.length]; omega), List.take_append_of_le_length (by rw [List.length_drop, g2.length]; omega)], .ag ((g2.drop off).take sz)⟩
          | false =>
            simp only [Bool.false_eq_true, if_false] at he ⊢
            obtain ⟨a, q1, q2⟩ := g2.get he
            exact ⟨a, by rw [List.getElem?_append_left (List.getElem?_eq_some_iff.1 q1).1]; exact q1, q2⟩
      · cases he
    · cases he
theorem resEs_ok {ρ : Ren} {l : EEnv} {E : AEnv} {H : List EBlk} {h : AHeap} (ho : EnvOk ρ l E) (hp : Hp ρ H h₀ h) : ∀ {rs : List RRes} {es : List EV}, resEs l H rs = some es → ∃ as, resAVs E h rs = some as ∧ RVs ρ es as
  | [], es, he => by simp only [resEs, Option.some.injEq] at he; subst he; exact ⟨[], rfl, .nil⟩
  | r :: rs, es, he => by
    simp only [resEs] at he
    split at he
    · rename_i x l' h1 h2
      cases he
      obtain ⟨a, g1, g2⟩ := resE_ok ho hp h1
      obtain ⟨as, g3, g4⟩ := resEs_ok ho hp h2
      exact ⟨_, by simp only [resAVs, g1, g3], .cons g2 g4⟩
    · cases he
theorem packE_ok {ρ : Ren} : ∀ {es : List EV} {as : List AV}, RVs ρ es as → RV ρ (packE es) (packAV as)
  | _, _, .nil => .tu .nil
  | _, _, .cons h .nil => h
  | _, _, .cons h (.cons h1 h2) => .tu (.cons h (.cons h1 h2))
def finishE (res : List RRes) (l : EEnv) (H : List EBlk) : Option (EV × List EBlk) := match resEs l H res with | some es => some (packE es, H) | none => none
def evalRT (kk : Kx) (call : CallE) (res : List RRes) : Nat → List RT → EEnv → List EBlk → Option (EV × List EBlk)
  | 0, _, _, _ => none
  | n + 1, todo, l, H =>
    match todo with
    | [] => finishE res l H
    | .inBlock _ :: k => evalRT kk call res n k l H
    | .inLoop x :: k => evalRT kk call res n (.code x :: .inLoop x :: k) l H
    | .begin :: _ => none
    | .code c :: k =>
      match c with
      | .skip => evalRT kk call res n k l H
      | .region items => (match evalItems kk call items l H with | some (l', H') => evalRT kk call res n k l' H' | none => none)
      | .regionT t => (match evalTree kk call t l H with
        | some ((l1, H1) :: rest) => if rest.all (fun p => envSub l1 p.1 && heapBeq H1 p.2) = true then evalRT kk call res n k l1 H1 else none
        | _ => none)
      | .seq a b => evalRT kk call res n (.code a :: .code b :: k) l H
      | .cond x a b => (match oev l x with
        | some (.k (.bool true)) => evalRT kk call res n (.code a :: k) l H
        | some (.k (.bool false)) => evalRT kk call res n (.code b :: k) l H
        | _ => none)
      | .block id a => evalRT kk call res n (.code a :: .inBlock id :: k) l H
      | .loop a => evalRT kk call res n (.code a :: .inLoop a :: k) l H
      | .exit id => (match rExit id k with | some k' => evalRT kk call res n k' l H | none => none)
      | .ret => finishE res l H
      | .rangeFunc g _ _ _ => (match oev l g with
        | some (.fn f cap) => (match call f (.yd H.length :: cap) (H ++ [.loop]) with
          | some (_, H') => (match H'[H.length]? with | some .loop => evalRT kk call res n k l (H'.set H.length .dead) | _ => none)
          | none => none)
        | _ => none)
theorem evalRT_sound (ok : EvOk P kk call) {fn : Func} {m : Nat} {res : List RRes} (hres : resRes P fn.results.toList = some res) {x : EV} {H' : List EBlk} {Q : AV → AHeap → Prop} : ∀ {n : Nat} {todo : List RT} {l : EEnv} {H : List EBlk}, evalRT kk call res n todo l H = some (x, H') →
    ∀ {ρ : Ren} {E : AEnv} {h : AHeap}, EnvOk ρ l E → Hp ρ H h₀ h → (∀ ρ' y h', ρ.le ρ' → Hp ρ' H' h₀ h' → RV ρ' x y → Q y h') → RRun P fn m todo E h Q
  | 0, _, _, _, he, _, _, _, _, _, _ => by simp [evalRT] at he
  | n + 1, todo, l, H, he, ρ, E, h, ho, hp, hk => by
    have fin : ∀ {x H'}, finishE res l H = some (x, H') → (∀ ρ' y h', ρ.le ρ' → Hp ρ' H' h₀ h' → RV ρ' x y → Q y h') → ∃ xs, resAVs E h res = some xs ∧ Q (packAV xs) h := by
      intro x H' hf hk
      unfold finishE at hf
      split at hf <;> cases hf
      rename_i hr
      obtain ⟨as, h1, h2⟩ := resEs_ok ho hp hr
      exact ⟨as, h1, hk ρ _ h (.refl ρ) hp (packE_ok h2)⟩
    unfold evalRT at he
    split at he
    · obtain ⟨xs, h1, h2⟩ := fin he hk
      exact RRun.done hres h1 h2
    · exact RRun.inBlock (evalRT_sound ok hres he ho hp hk)
    · exact RRun.inLoop (evalRT_sound ok hres he ho hp hk)
    · cases he
    · split at he
      · exact RRun.skip (evalRT_sound ok hres he ho hp hk)
      · split at he
        · rename_i hi
          exact RRun.region (evalItems_sound ok hi ho hp fun ρ' E' h' q1 q2 q3 => evalRT_sound ok hres he q2 q3 fun ρ2 y h2 r1 r2 r3 => hk ρ2 y h2 (q1.trans r1) r2 r3)
        · cases he
      · split at he
        · rename_i l1 H1 rest ht
          split at he
          · rename_i hall
            refine RRun.regionT (evalTree_sound ok ht ho hp fun p hpL ρ' E' h' q1 q2 q3 => ?_)
            have hp1 : EnvOk ρ' l1 E' ∧ Hp ρ' H1 h₀ h' := by
              rcases List.mem_cons.1 hpL with rfl | hpL
              · exact ⟨q2, q3⟩
              · have := List.all_eq_true.1 hall p hpL
                rw [Bool.and_eq_true] at this
                have hH := heapBeq_eq this.2
                subst hH
                exact ⟨envSub_ok this.1 q2, q3⟩
            exact evalRT_sound ok hres he hp1.1 hp1.2 fun ρ2 y h2 r1 r2 r3 => hk ρ2 y h2 (q1.trans r1) r2 r3
          · cases he
        · cases he
      · exact RRun.seq (evalRT_sound ok hres he ho hp hk)
      · split at he
        · rename_i hx
          exact RRun.cond (t := true) (oev_k ho hx) (evalRT_sound ok hres he ho hp hk)
        · rename_i hx
          exact RRun.cond (t := false) (oev_k ho hx) (evalRT_sound ok hres he ho hp hk)
        · cases he
      · exact RRun.block (evalRT_sound ok hres he ho hp hk)
      · exact RRun.loop (evalRT_sound ok hres he ho hp hk)
      · split at he
        · rename_i hx
          exact RRun.exit hx (evalRT_sound ok hres he ho hp hk)
        · cases he
      · obtain ⟨xs, h1, h2⟩ := fin he hk
        exact RRun.ret hres h1 h2
      · split at he
        · rename_i g0 ps0 as0 bo0 _ f cap hg
          split at he
          · rename_i e1 H1 hcl
            split at he
            · rename_i hH1
              obtain ⟨av, ha, va⟩ := oev_ok ho hg
              cases va with
              | fn _ vs hvs =>
                refine RRunG.rangeFuncC ha (FnIs.v f #[] vs.toArray) (ok.hplain _ _ _ _ _ hcl) (fun l0 e => by cases e) fun cx cy _ _ lb hlb => ?_
                have hp1 := hp.newObj hlb (k := .loop) rfl (RObj.loop (r := ⟨E, m, ps0, cx, cy, .ready, none⟩) rfl rfl)
                have hle1 := hp.addO_le (lb, ABlk.loop ⟨E, m, ps0, cx, cy, .ready, none⟩)
                have hargs : RVs (ρ.addO H.length (lb, ABlk.loop ⟨E, m, ps0, cx, cy, .ready, none⟩)) (.yd H.length :: cap) ((#[] : Array Value).toList.map AV.v ++ [yieldV lb] ++ vs.toArray.toList.map .v) := by
                  simp only [List.map_nil, List.nil_append, List.singleton_append]
                  exact .cons (.yd (by simp [Ren.addO]; rfl)) (hvs.mono hle1)
                refine (ok.hcall f _ _ _ _ hcl _ h₀ _ _ hp1 hargs).mono fun y h' ⟨ρ', q1, q2, q3⟩ => ?_
                obtain ⟨x', a', g1, g2, g3, g4⟩ := q2.obj H.length _ hH1 rfl
                have : ρ'.o H.length = some (lb, _) := q1.2.2.1 _ _ (by simp [Ren.addO]; rfl)
                rw [this] at g1; cases g1
                refine ⟨_, g2, by simp, ?_⟩
                exact evalRT_sound ok hres he (ho.mono (hle1.trans q1)) (q2.endObj hH1 rfl this) fun ρ2 y h2 r1 r2 r3 => hk ρ2 y h2 ((hle1.trans q1).trans r1) r2 r3
            · cases he
          · cases he
        · cases he
structure RF where
  code : RCode
  n : Nat
  res : List RRes
def TabOk (P : Program) (T : FuncId → Option RF) : Prop := ∀ f r, T f = some r → plainCallee P f = true ∧ ∃ fn c, P.funcs[f]? = some fn ∧ fn.body = some c ∧ fn.ntmps = r.n ∧ (∃ md, resCodeM P r.n md c = some r.code) ∧ resRes P fn.results.toList = some r.res
def FOk (P : Program) (f : FuncId) (r : RF) : Prop := plainCallee P f = true ∧ ∃ fn c, P.funcs[f]? = some fn ∧ fn.body = some c ∧ fn.ntmps = r.n ∧ (∃ md, resCodeM P r.n md c = some r.code) ∧ resRes P fn.results.toList = some r.res
def lookT : List (Nat × RF) → FuncId → Option RF
  | [], _ => none
  | p :: l, f => match Nat.beq f p.1 with | true => some p.2 | false => lookT l f
theorem TabOk.of_list {P : Program} : ∀ {L : List (Nat × RF)}, (∀ p ∈ L, FOk P p.1 p.2) → TabOk P (lookT L)
  | [], _, f, r, h => by simp [lookT] at h
  | p :: L, hL, f, r, h => by
    simp only [lookT] at h
    rcases nbeq (a := f) (b := p.1) with ⟨h1, h2⟩ | ⟨h1, h2⟩
    · rw [h1] at h
      cases h
      subst h2
      exact hL p (List.mem_cons_self ..)
    · rw [h1] at h
      exact TabOk.of_list (fun q hq => hL q (List.mem_cons_of_mem _ hq)) f r h
def initE : List EV → Nat → EEnv
  | [], _ => []
  | e :: es, k => (k, e) :: initE es (k + 1)
theorem initE_get : ∀ (es : List EV) (k t : Nat), EEnv.get (initE es k) t = if k ≤ t then es[t - k]? else none
  | [], k, t => by simp [initE, EEnv.get]
  | e :: es, k, t => by
    simp only [initE, EEnv.get]
    rcases nbeq (a := t) (b := k) with ⟨h1, h2⟩ | ⟨h1, h2⟩
    · subst h2; simp
    · rw [h1, initE_get es (k + 1) t]
      by_cases hk : k ≤ t
      · have : t - k = (t - (k + 1)) + 1 := by omega
        rw [if_pos hk, if_pos (by omega), this]; rfl
      · rw [if_neg hk, if_neg (by omega)]
theorem initE_ok {ρ : Ren} {es : List EV} {as : List AV} (h : RVs ρ es as) : EnvOk ρ (initE es 0) (envOf as) := fun t e he => by
  rw [initE_get] at he
  simp only [Nat.zero_le, if_true, Nat.sub_zero] at he
  exact h.get he
def evalCall (kk : Kx) (T : FuncId → Option RF) (steps : Nat) : Nat → CallE
  | 0 => fun _ _ _ => none
  | d + 1 => fun f args H =>
    match T f with
    | some r => if args.length ≤ r.n then evalRT kk (evalCall kk T steps d) r.res steps [.code r.code] (initE args 0) H else none
    | none => none
theorem evalCall_ok {T : FuncId → Option RF} (hkk : KkOk P kk) (hT : TabOk P T) (steps : Nat) : ∀ d, EvOk P kk (evalCall kk T steps d)
  | 0 => ⟨hkk, fun f args H x H' he => by simp [evalCall] at he, fun f args H x H' he => by simp [evalCall] at he⟩
  | d + 1 => by
    have ih := evalCall_ok hkk hT steps d
    refine ⟨hkk, fun f args H x H' he ρ h₀ as h hp hv => ?_, fun f args H x H' he => ?_⟩
    · simp only [evalCall] at he
      split at he
      · rename_i r hr
        split at he
        · rename_i hl
          obtain ⟨_, fn, c, h1, h2, h3, ⟨md, h4⟩, h5⟩ := hT f r hr
          exact ACalls.of_run h1 h2 h3 h4 (by rw [hv.length]; exact hl) (evalRT_sound ih h5 he (initE_ok hv) hp fun ρ' y h' q1 q2 q3 => ⟨ρ', q1, q2, q3⟩)
        · cases he
      · cases he
    · simp only [evalCall] at he
      split at he
      · rename_i r hr; exact (hT f r hr).1
      · cases he
theorem ACalls.eval {T : FuncId → Option RF} (hkk : KkOk P kk) (hT : TabOk P T) {steps d : Nat} {f : FuncId} {args : List Value} {v : Value} {H' : List EBlk} (he : evalCall kk T steps d f (args.map .k) [] = some (.k v, H')) (h : AHeap) :
    ACalls P f (args.map .v) h (fun x h' => x = .v v ∧ h' = h) := by
  refine ACalls.weak (((evalCall_ok hkk hT steps d).hcall f _ _ _ _ he _ h _ h (Hp.start h) (RVs.map_k args)).mono fun y h' ⟨ρ, _, hp, hv⟩ => ?_)
  cases hv
  exact ⟨_, _, .refl _, hp.le, rfl, rfl⟩
def lenIs (n : Nat) : Option (EV × List EBlk) → Bool
  | some (.sl sz es c, _) => Nat.beq es.length n && (EVss.closed es).isSome
  | _ => false
theorem EVss.closed_len : ∀ {es : List (List EV)} {as : List (List AV)}, EVss.closed es = some as → as.length = es.length
  | [], as, h => by simp only [EVss.closed, Option.some.injEq] at h; subst h; rfl
  | e :: es, as, h => by
    simp only [EVss.closed] at h
    split at h <;> cases h
    rename_i h1 h2
    simp [EVss.closed_len h2]
theorem ACalls.evalLen {T : FuncId → Option RF} (hkk : KkOk P kk) (hT : TabOk P T) {steps d n : Nat} {f : FuncId} {args : List EV} {as : List AV} (he : lenIs n (evalCall kk T steps d f args []) = true) (ha : EVs.closed args = some as) (hr : EVs.ro args = args) (h : AHeap) :
    ACalls P f as h (fun x h' => ∃ sz es, x = .sl sz es .ro ∧ es.length = n ∧ h' = h) := by
  unfold lenIs at he
  split at he
  · rename_i sz es c H' hev
    rw [Bool.and_eq_true] at he
    obtain ⟨h1, h2⟩ := he
    obtain ⟨bs, hbs⟩ := Option.isSome_iff_exists.1 h2
    refine ACalls.weak (((evalCall_ok hkk hT steps d).hcall f _ _ _ _ hev _ h _ h (Hp.start h) (by have := closeds_rv (ρ := ⟨fun _ => none, fun _ => none, fun _ => none, fun _ => [], fun _ => 0⟩) ha; rwa [hr] at this)).mono fun y h' ⟨ρ, _, hp, hv⟩ => ?_)
    have hc : EV.closed (.sl sz es c) = some (.sl sz bs .ro) := by simp [EV.closed, hbs]
    exact ⟨_, _, (closed_ok (ρ := ρ) hv hc).1, hp.le, sz, bs, rfl, by rw [EVss.closed_len hbs]; exact Nat.eq_of_beq_eq_true h1, rfl⟩
  · cases he
end
end Go.Av
