/-
  AdyaDeps answers true for every history
-/
import Derived.Test.YthfolomknkobkaaP22
set_option linter.unusedVariables false
namespace Go.Av
theorem Hp.kill {ρ : Ren} {H : List EBlk} {h₀ h : AHeap} (hp : Hp ρ H h₀ h) {i : Nat} (hi : H[i]? = some .grow) (hc : ρ.c i = some .full) : Hp ρ (H.set i .dead) h₀ h := by
  have old : ∀ {j : Nat} {y : EBlk}, (H.set i .dead)[j]? = some y → y ≠ .dead → H[j]? = some y := fun {j y} e hy => by
    rcases getElem?_set_ne' e with ⟨_, e⟩ | ⟨_, e⟩
    · exact absurd e hy
    · exact e
  refine ⟨fun j cs e => hp.box j cs (old e (fun e => by cases e)), fun j es e => hp.map j es (old e (fun e => by cases e)), fun j e => hp.grow j (old e (fun e => by cases e)),
    fun j x e => by rw [List.length_set]; exact hp.ltb j x e, fun j x e => by rw [List.length_set]; exact hp.ltc j x e, hp.inj,
    fun j k b u s u' s' e e' => hp.injc j k b u s u' s' (old e (fun e => by cases e)) (old e' (fun e => by cases e)), hp.own, fun j x e => ?_, hp.new, hp.fr, fun x y e => ?_, fun j k e ek => hp.obj j k (old e (fun e => by subst e; cases ek)) ek,
    fun j x e => by rw [List.length_set]; exact hp.lto j x e, fun j j' k k' x a1 a2 e ek e' ek' => hp.injo j j' k k' x a1 a2 (old e (fun e => by subst e; cases ek)) ek (old e' (fun e => by subst e; cases ek')) ek'⟩
  · have hk := hp.kinds j x e
    rw [List.getElem?_set_ne]
    · exact hk
    · intro e'; subst e'; exact hk.1 hi
  · rcases hp.all x y e with g | ⟨k, g1, g2⟩ | ⟨k, u, s, g1, g2⟩ | ⟨k, q, g1, g2, g3⟩
    · exact .inl g
    · exact .inr (.inl ⟨k, g1, by rw [List.length_set]; exact g2⟩)
    · refine .inr (.inr (.inl ⟨k, u, s, ?_, g2⟩))
      rw [List.getElem?_set_ne]
      · exact g1
      · intro e'; subst e'; rw [hc] at g2; cases g2
    · refine .inr (.inr (.inr ⟨k, q, ?_, g2, g3⟩))
      rw [List.getElem?_set_ne]
      · exact g1
      · intro e'; subst e'; rw [hi] at g1; cases g1; cases g2
section
variable {P : Program} {c : Cls} {E : AEnv} {h h₀ : AHeap} {H : List EBlk} {ρ : Ren} {l : EEnv}
def Post (ρ : Ren) (h₀ : AHeap) (e : EV) (H' : List EBlk) (a : AV) (h' : AHeap) : Prop := ∃ ρ', ρ.le ρ' ∧ Hp ρ' H' h₀ h' ∧ RV ρ' e a
theorem Post.same (hp : Hp ρ H h₀ h) {e : EV} {a : AV} (hv : RV ρ e a) : Post ρ h₀ e H a h := ⟨ρ, .refl ρ, hp, hv⟩
def CallOk (P : Program) (call : CallE) : Prop := ∀ f args H x H', call f args H = some (x, H') → ∀ ρ h₀ as h, Hp ρ H h₀ h → RVs ρ args as → ACalls P f as h (Post ρ h₀ x H')
theorem src_ok {sz : Nat} {e : EV} {es : List (List EV)} (h : Src? sz e = some es) {a : AV} (hv : RV ρ e a) : ∃ as, Src sz a as ∧ RVss ρ es as := by
  cases hv with
  | sl sz' r rc =>
    simp only [Src?] at h
    split at h
    · rename_i hs; cases h; subst hs; exact ⟨_, .sl _ _, r⟩
    · cases h
  | k x =>
    simp only [Src?] at h
    split at h
    · rename_i heq; cases heq
    · rename_i heq; cases heq; cases h; exact ⟨[], .nil, .nil⟩
    · cases h
  | _ => simp [Src?] at h
theorem dst_ok {sz : Nat} {e : EV} {es : List (List EV)} {cc : ECap} (h : Dst? sz e = some (es, cc)) (hcc : cc ≠ .ro) {a : AV} (hv : RV ρ e a) : ∃ as c', Dst sz a as c' ∧ RVss ρ es as ∧ RC ρ cc c' := by
  cases hv with
  | sl sz' r rc =>
    simp only [Dst?] at h
    split at h
    · rename_i hs; cases h; subst hs; exact ⟨_, _, .sl _ _, r, rc⟩
    · cases h
  | k x =>
    simp only [Dst?] at h
    split at h
    · rename_i heq; cases heq
    · rename_i heq; cases heq; cases h; exact ⟨[], _, .nil, .nil, .full⟩
    · cases h
  | _ => simp [Dst?] at h
theorem RVss.flat : ∀ {es : List (List EV)} {as : List (List AV)}, RVss ρ es as → RVs ρ es.flatten as.flatten
  | _, _, .nil => .nil
  | _, _, .cons h1 h2 => by simp only [List.flatten_cons]; exact h1.append h2.flat
theorem ones_ok : ∀ {es : List (List EV)} {as : List (List AV)}, RVss ρ es as → (∀ e ∈ es, e.all EV.one = true) → ∀ e ∈ as, ∀ a ∈ e, a.one = true
  | _, _, .nil, _, e, he, _, _ => by simp at he
  | _, _, .cons h1 h2, h, e, he, a, ha => by
    rcases List.mem_cons.1 he with rfl | he
    · have := h1.one (h _ (List.mem_cons_self ..))
      exact List.all_eq_true.1 this a ha
    · exact ones_ok h2 (fun e he => h e (List.mem_cons_of_mem _ he)) e he a ha
theorem ents_ok {es : List (Value × EV)} {as : List (Value × AV)} (h1 : as.map (·.1) = es.map (·.1)) (h2 : RVs ρ (es.map (·.2)) (as.map (·.2))) {j : Nat} {p : Value × EV} (hj : es[j]? = some p) : ∃ a, as[j]? = some (p.1, a) ∧ RV ρ p.2 a := by
  obtain ⟨a, g1, g2⟩ := h2.get (i := j) (e := p.2) (by rw [List.getElem?_map, hj]; rfl)
  rw [List.getElem?_map, Option.map_eq_some_iff] at g1
  obtain ⟨q, q1, q2⟩ := g1
  have h3 : (as.map (·.1))[j]? = (es.map (·.1))[j]? := by rw [h1]
  rw [List.getElem?_map, List.getElem?_map, q1, hj] at h3
  simp only [Option.map_some, Option.some.injEq] at h3
  exact ⟨a, by rw [q1, ← q2, ← h3], g2⟩
theorem ents_back {es : List (Value × EV)} {as : List (Value × AV)} (h1 : as.map (·.1) = es.map (·.1)) {j : Nat} {p : Value × AV} (hj : as[j]? = some p) : ∃ e, es[j]? = some (p.1, e) := by
  have h3 : (as.map (·.1))[j]? = (es.map (·.1))[j]? := by rw [h1]
  rw [List.getElem?_map, List.getElem?_map, hj] at h3
  cases he : es[j]? with
  | none => rw [he] at h3; cases h3
  | some q =>
    rw [he] at h3
    simp only [Option.map_some, Option.some.injEq] at h3
    exact ⟨q.2, by rw [h3]⟩
theorem loadAV_app {agg : Bool} {sz : Nat} {as tl : List AV} {off : Nat} {av : AV} (h : loadAV agg sz (as.drop off) = some av) : loadAV agg sz ((as ++ tl).drop off) = some av := by
  by_cases hl : off ≤ as.length
  · rw [List.drop_append_of_le_length hl]
    unfold loadAV at h ⊢
    cases agg with
    | true =>
      simp only [if_true] at h ⊢
      split at h
      · rename_i hs; cases h; rw [if_pos (by simp at hs ⊢; omega), List.take_append_of_le_length hs]
      · cases h
    | false =>
      simp only [Bool.false_eq_true, if_false] at h ⊢
      split at h
      · rename_i hs
        rw [if_pos hs, List.getElem?_append_left]
        · exact h
        · exact (List.getElem?_eq_some_iff.1 h).1
      · cases h
  · rw [List.drop_eq_nil_of_le (by omega)] at h
    unfold loadAV at h ⊢
    cases agg with
    | true =>
      simp only [if_true] at h ⊢
      split at h
      · rename_i hs; cases h
        have : sz = 0 := by simpa using hs
        subst this
        simp
      · cases h
    | false =>
      simp only [Bool.false_eq_true, if_false] at h
      split at h <;> simp at h
theorem over_app {as tl xs : List AV} {off : Nat} (h : off + xs.length ≤ as.length) : over (as ++ tl) off xs = over as off xs ++ tl := by
  unfold over
  rw [List.take_append_of_le_length (by omega), List.drop_append_of_le_length h]
  simp
theorem evalEq_ok {neg : Bool} {q : EqK} {x y : Operand} {ex ey : EV} {r : Bool} {K : AV → AHeap → Prop} (ho : EnvOk ρ l E) (hx : oev l x = some ex) (hy : oev l y = some ey) (he : evalEq neg q ex ey = some r) (hk : K (.v (.bool r)) h) : ROpS P c (.eq neg q x y) E h K := by
  obtain ⟨a, ha, va⟩ := oev_ok ho hx
  obtain ⟨b, hb, vb⟩ := oev_ok ho hy
  unfold evalEq at he
  split at he
  · split at he
    · rename_i hkk; cases he; subst hkk; cases va; cases vb; exact R.eqInt ha hb hk
    · cases he
  · cases he; cases va; cases vb; exact R.eqStr ha hb hk
  · cases he; cases va; cases vb; exact R.eqBool ha hb hk
  · cases he; cases va; cases vb; refine R.eqPtrNil ha hb ?_; cases neg <;> exact hk
  · cases he; cases va; cases vb; exact R.eqPtrNil ha hb hk
  · cases he; cases va with | sl _ rr rc => cases vb; exact R.eqSlNil ha hb (by cases rr; simp) hk
  · cases he; cases va; cases vb; refine R.eqSlAtom ha hb ?_; cases neg <;> exact hk
  · cases he; cases va; cases vb; exact R.eqSlAtom ha hb hk
  · cases he; cases va; cases vb; refine R.eqMapNil ha hb ?_; cases neg <;> exact hk
  · cases he; cases va; cases vb; exact R.eqMapNil ha hb hk
  · split at he
    · rename_i xs ys h1 h2
      split at he <;> cases he
      rename_i hr
      cases va with
      | ag ra =>
        cases vb with
        | ag rb =>
          have e1 := evKs_ok ra h1
          have e2 := evKs_ok rb h2
          subst e1; subst e2
          exact R.eqAgg ha hb hr hk
    · cases he
  · cases he
theorem capCut_le {cc : ECap} {c' : Cap} (h : RC ρ cc c') (lo hi len : Nat) (mx : Option Int) (sz : Nat) (es : List (List AV)) : ∃ y, RC ρ (capCutE cc lo hi len mx) y ∧ ALe (.sl sz es (capCut c' lo hi len mx)) (.sl sz es y) := by
  unfold capCutE capCut
  cases mx with
  | some m =>
    dsimp only
    by_cases hm : m = (hi : Int)
    · rw [if_pos hm, if_pos hm]; exact ⟨_, .full, .refl _⟩
    · rw [if_neg hm, if_neg hm]; exact ⟨_, .ro, .refl _⟩
  | none =>
    dsimp only
    by_cases hl : lo = 0 ∧ hi = len
    · rw [if_pos hl, if_pos hl]; exact ⟨_, h, .refl _⟩
    · rw [if_neg hl, if_neg hl]
      cases h with
      | ro => exact ⟨_, .ro, .refl _⟩
      | full =>
        dsimp only
        by_cases hh : hi = len
        · rw [if_pos hh, if_pos hh]; exact ⟨_, .full, .refl _⟩
        · rw [if_neg hh, if_neg hh]; exact ⟨_, .ro, .refl _⟩
      | tok _ => exact ⟨_, .ro, .toRo _ _ _⟩
theorem ROpS.weakE {r : ROp} {E' : AEnv} {K : AV → AHeap → Prop} (H : ROpS P c r E' h K) (hE : ∀ y av', aev E' y = some av' → ∃ av, aev E y = some av ∧ ALe av av') : ROpS P c r E h K := fun o ho => by
  have key : ∀ {h : AHeap} {K : AV → AHeap → Prop}, AOp P o E' h K → AOp P o E h K := fun ha ro a w h1 h2 => ha ro a w (fun x hx av' hav' => by
    obtain ⟨av, g1, g2⟩ := hE x av' hav'
    exact g2 _ _ (h1 x hx av g1)) h2
  have := H o ho
  cases c with
  | pure => obtain ⟨x, g1, g2⟩ := this; exact ⟨x, fun h' => key (g1 h'), g2⟩
  | read => obtain ⟨x, g1, g2⟩ := this; exact ⟨x, key g1, g2⟩
  | act => exact key this
theorem maps_at {hp : Hp ρ H h₀ h} {i : Nat} {es : List (Value × EV)} (hH : H[i]? = some (.map es)) {x : Operand} (ho : EnvOk ρ l E) (hx : oev l x = some (.mp i)) :
    ∃ b as, ρ.b i = some b ∧ aev E x = some (.v (.map (some b))) ∧ h b = some (.map as) ∧ as.map (·.1) = es.map (·.1) ∧ RVs ρ (es.map (·.2)) (as.map (·.2)) := by
  obtain ⟨a, ha, va⟩ := oev_ok ho hx
  cases va with
  | mp hb =>
    obtain ⟨b', as, g1, g2, g3, g4⟩ := hp.map i es hH
    rw [hb] at g1; cases g1
    exact ⟨_, as, hb, ha, g2, g3, g4⟩
theorem evalOp_sound {kk : Kx} {call : CallE} (hkk : KkOk P kk) (hcall : CallOk P call) (hplain : ∀ f args H x H', call f args H = some (x, H') → plainCallee P f = true) {r : ROp} {e : EV} {H' : List EBlk} (he : evalOp kk call c l H r = some (e, H')) (ho : EnvOk ρ l E) (hp : Hp ρ H h₀ h) : ROpS P c r E h (Post ρ h₀ e H') := by
  cases r with
  | mv x =>
    simp only [evalOp] at he
    split at he <;> cases he
    rename_i hx
    obtain ⟨a, ha, va⟩ := oev_ok ho hx
    exact R.mv ha (.same hp va)
  | pick a x y =>
    simp only [evalOp] at he
    split at he
    · rename_i h1
      split at he <;> cases he
      rename_i hx
      obtain ⟨a, ha, va⟩ := oev_ok ho hx
      exact R.pickT (oev_k ho h1) ha (.same hp va)
    · rename_i h1
      split at he <;> cases he
      rename_i hx
      obtain ⟨a, ha, va⟩ := oev_ok ho hx
      exact R.pickF (oev_k ho h1) ha (.same hp va)
    · cases he
  | bin op x y =>
    simp only [evalOp] at he
    split at he
    · rename_i hx hy
      split at he
      · rename_i hk
        subst hk
        split at he <;> cases he
        rename_i hv
        exact R.bin (oev_k ho hx) (oev_k ho hy) hv (.same hp (.k _))
      · cases he
    · rename_i hx hy
      split at he <;> cases he
      rename_i hv
      exact R.binStr (oev_k ho hx) (oev_k ho hy) hv (.same hp (.k _))
    · cases he
  | eq neg q x y =>
    simp only [evalOp] at he
    split at he
    · rename_i hx hy
      split at he <;> cases he
      rename_i hv
      exact evalEq_ok ho hx hy hv (.same hp (.k _))
    · cases he
  | un op x =>
    simp only [evalOp] at he
    split at he <;> cases he
    · rename_i hx; exact R.not (oev_k ho hx) (.same hp (.k _))
    · rename_i hx; exact R.neg (oev_k ho hx) (.same hp (.k _))
  | convInt k x =>
    simp only [evalOp] at he
    split at he <;> cases he
    rename_i hx
    exact R.convInt (oev_k ho hx) (.same hp (.k _))
  | convStr x =>
    simp only [evalOp] at he
    split at he <;> cases he
    rename_i hx
    exact R.convStr (oev_k ho hx) (.same hp (.k _))
  | alloc z =>
    simp only [evalOp] at he
    split at he <;> cases he
    rename_i hc
    refine R.alloc hc fun b hb => ⟨ρ.addB H.length b, hp.addB_le b, hp.alloc hb (.inl ⟨_, _, rfl, rfl, RVs.map_k z⟩), .pt 0 (by simp [Ren.addB, Ren.addBT])⟩
  | box x =>
    simp only [evalOp] at he
    split at he
    · rename_i hc
      split at he
      · rename_i ex hx
        split at he <;> cases he
        rename_i hcs
        obtain ⟨a, ha, va⟩ := oev_ok ho hx
        obtain ⟨as, g1, g2⟩ := va.cells? hcs
        exact R.box hc ha g1 fun b hb => ⟨ρ.addB H.length b, hp.addB_le b, hp.alloc hb (.inl ⟨_, _, rfl, rfl, g2.mono (hp.addB_le b)⟩), .pt 0 (by simp [Ren.addB, Ren.addBT])⟩
      · cases he
    · cases he
  | build z qs =>
    simp only [evalOp] at he
    split at he
    · rename_i hps
      split at he <;> cases he
      rename_i hf
      obtain ⟨as, g1, g2⟩ := oparts_ok ho hps
      obtain ⟨bs, g3, g4⟩ := fillE_spec g2 (RVs.map_k z) hf
      exact R.build g1 g3 (.same hp (.ag g4))
    · cases he
  | buildSl sz z len qs =>
    simp only [evalOp] at he
    split at he
    · rename_i hps
      split at he
      · rename_i out hf
        split at he <;> cases he
        rename_i hl
        obtain ⟨as, g1, g2⟩ := oslparts_ok ho hps
        obtain ⟨bs, g3, g4⟩ := fillE_spec g2 (RVs.map_k _) hf
        exact R.buildSl g1 g3 (by rw [g4.length]; exact hl.1) hl.2 (.same hp (.sl sz (chunksE_spec sz len g4) .full))
      · cases he
    · cases he
  | load agg sz x =>
    simp only [evalOp] at he
    split at he
    · rename_i i off hx
      split at he
      · cases he
      · rename_i hc
        split at he
        · rename_i cs hH
          split at he <;> cases he
          rename_i hl
          obtain ⟨a, ha, va⟩ := oev_ok ho hx
          cases va with
          | pt _ hb =>
            obtain ⟨b', as, g1, g2, g3⟩ := hp.box i cs hH
            rw [hb] at g1; cases g1
            obtain ⟨av, q1, q2⟩ := (g2.drop off).load hl
            exact R.load hc ha g3 (loadAV_app q1) (.same hp q2)
        · cases he
    · rename_i cs hx
      split at he <;> cases he
      rename_i hl
      obtain ⟨a, ha, va⟩ := oev_ok ho hx
      cases va with
      | rp g2 =>
        obtain ⟨av, q1, q2⟩ := g2.load hl
        exact R.loadR ha q1 (.same hp q2)
    · cases he
  | store sz x y =>
    simp only [evalOp] at he
    split at he
    · rename_i hc
      split at he
      · rename_i i off ey hx hy
        split at he
        · rename_i cs xs hH hxs
          split at he <;> cases he
          rename_i hl
          obtain ⟨a, ha, va⟩ := oev_ok ho hx
          obtain ⟨b, hb, vb⟩ := oev_ok ho hy
          cases va with
          | pt _ hρ =>
            obtain ⟨b', as, g1, g2, g3⟩ := hp.box i cs hH
            rw [hρ] at g1; cases g1
            obtain ⟨ys, q1, q2⟩ := vb.cells? hxs
            have hl2 : off + ys.length ≤ as.length := by rw [g2.length, q2.length, hl.1]; exact hl.2
            refine R.store hc ha g3 hb q1 (by rw [q2.length]; exact hl.1) (by rw [List.length_append, g2.length]; omega) ?_
            rw [over_app hl2]
            exact ⟨ρ, .refl ρ, hp.turn hρ (.inl ⟨_, _, rfl, rfl, g2.over q2 off⟩), .k _⟩
        · cases he
      · cases he
    · cases he
  | nilCheck x =>
    simp only [evalOp] at he
    split at he <;> cases he
    · rename_i hx
      obtain ⟨a, ha, va⟩ := oev_ok ho hx
      cases va with | pt _ hb => exact R.nilCheck ha (.same hp (.pt _ hb))
    · rename_i hx
      obtain ⟨a, ha, va⟩ := oev_ok ho hx
      cases va with | rp hb => exact R.nilCheckR ha (.same hp (.rp hb))
  | fieldAddr o x =>
    simp only [evalOp] at he
    split at he <;> cases he
    · rename_i hx
      obtain ⟨a, ha, va⟩ := oev_ok ho hx
      cases va with | pt _ hb => exact R.fieldAddr ha (.same hp (.pt _ hb))
    · rename_i hx
      obtain ⟨a, ha, va⟩ := oev_ok ho hx
      cases va with | rp hb => exact R.fieldAddrR ha (.same hp (.rp (hb.drop o)))
  | field agg off sz x =>
    simp only [evalOp] at he
    split at he
    · rename_i cs hx
      obtain ⟨a, ha, va⟩ := oev_ok ho hx
      cases va with
      | ag hb =>
        rename_i as
        split at he
        · rename_i ex hv
          cases he
          cases agg with
          | true =>
            simp only [if_true] at hv
            split at hv <;> cases hv
            rename_i hl
            exact R.field ha (by simp only [if_true]; rw [if_pos (by rw [hb.length]; exact hl)]) (.same hp (.ag ((hb.drop off).take sz)))
          | false =>
            simp only [Bool.false_eq_true, if_false] at hv
            obtain ⟨av, q1, q2⟩ := hb.get hv
            exact R.field ha (by simp only [Bool.false_eq_true, if_false]; exact q1) (.same hp q2)
        · cases he
    · cases he
  | indexAddr sz x i =>
    simp only [evalOp] at he
    split at he
    · rename_i sz' es cc kd n hx hi
      split at he
      · rename_i hc
        obtain ⟨rfl, h0⟩ := hc
        split at he <;> cases he
        rename_i hes
        obtain ⟨a, ha, va⟩ := oev_ok ho hx
        cases va with
        | sl _ hr hrc =>
          obtain ⟨as, q1, q2⟩ := hr.get hes
          exact R.indexAddr ha (oev_k ho hi) h0 q1 (.same hp (.rp q2))
      · cases he
    · rename_i j len kd n hx hi
      split at he <;> cases he
      rename_i hc
      obtain ⟨a, ha, va⟩ := oev_ok ho hx
      cases va with
      | slb _ kc hb hkc => exact R.indexAddrV ha (oev_k ho hi) hc.1 hc.2 (by rw [Nat.zero_add]; exact .same hp (.pt _ hb))
    · cases he
  | indexStr x i =>
    simp only [evalOp] at he
    split at he
    · rename_i s kd n hx hi
      split at he
      · rename_i h0
        split at he <;> cases he
        rename_i hb
        exact R.indexStr (oev_k ho hx) (oev_k ho hi) h0 hb (.same hp (.k _))
      · cases he
    · cases he
  | sliceSl sz x lo hi mx =>
    simp only [evalOp] at he
    split at he
    · rename_i sz' es cc ol oh om hx hlo hhi hmx
      split at he <;> cases he
      rename_i hc
      obtain ⟨rfl, h0, h1, h2, h3, h4⟩ := hc
      obtain ⟨a, ha, va⟩ := oev_ok ho hx
      cases va with
      | sl _ hr hrc =>
        have hlen := hr.length
        obtain ⟨y, y1, y2⟩ := capCut_le hrc (ol.getD 0).toNat (oh.getD es.length).toNat es.length om sz _
        refine ROpS.sub (fun h' => R.sliceSl ha (ooint_ok ho hlo) (ooint_ok ho hhi) (ooint_ok ho hmx) rfl rfl h0 (by rw [hlen]; exact h1) (by rw [hlen]; exact h2) (by rw [hlen]; exact h3) h4 ⟨rfl, rfl⟩) (by rw [hlen]; exact y2) ?_
        exact .same hp (.sl _ ((hr.drop _).take _) y1)
    · rename_i ol oh om hx hlo hhi hmx
      split at he
      · rename_i t
        split at he <;> cases he
        rename_i hc
        obtain ⟨h0, h1, h2, h3, h4⟩ := hc
        have ha := oev_k ho hx
        have hE : ∀ y av', aev (E.put (some t) (.sl sz [] .full)) y = some av' → ∃ av, aev E y = some av ∧ ALe av av' := fun y av' hy => by
          cases y with
          | tmp t' =>
            simp only [aev, AEnv.put] at hy
            split at hy
            · rename_i e; subst e; cases hy; exact ⟨_, ha, .nilSl sz (c := .full) trivial⟩
            · exact ⟨av', hy, .refl _⟩
          | _ => exact ⟨av', hy, .refl _⟩
        have keep : ∀ {x : Option Operand} {r : Option Int}, ooint l x = some r → optInt (E.put (some t) (.sl sz [] .full)) x = some r := fun {x r} hr => by
          have h1 := ooint_ok ho hr
          cases x with
          | none => exact h1
          | some x =>
            cases x with
            | tmp t' =>
              by_cases e : t' = t
              · subst e
                simp only [ooint, hx] at hr
                cases hr
              · simp only [optInt, aev, AEnv.put, if_neg e] at h1 ⊢; exact h1
            | _ => exact h1
        refine ROpS.weakE (E' := E.put (some t) (.sl sz [] .full)) ?_ hE
        obtain ⟨y, y1, y2⟩ := capCut_le (ρ := ρ) .full (ol.getD 0).toNat (oh.getD 0).toNat 0 om sz (([] : List (List AV)).drop (ol.getD 0).toNat |>.take ((oh.getD 0).toNat - (ol.getD 0).toNat))
        refine ROpS.sub (fun h' => R.sliceSl (es := []) (cc := .full) (by simp [aev, AEnv.put]) (keep hlo) (keep hhi) (keep hmx) rfl rfl h0 h1 h2 h3 h4 ⟨rfl, rfl⟩) y2 ?_
        refine .same hp (.sl sz ?_ y1)
        simp only [List.drop_nil, List.take_nil]
        exact .nil
      · cases he
    · cases he
  | len x =>
    simp only [evalOp] at he
    split at he <;> cases he
    · rename_i hx
      obtain ⟨a, ha, va⟩ := oev_ok ho hx
      cases va with
      | sl _ hr hrc => refine R.len ha ?_; rw [hr.length]; exact .same hp (.k _)
    · rename_i hx
      obtain ⟨a, ha, va⟩ := oev_ok ho hx
      cases va with
      | slb _ kc hb hkc => exact R.lenA ha (.same hp (.k _))
    · rename_i hx
      exact R.lenA (oev_k ho hx) (.same hp (.k _))
  | lenStr x =>
    simp only [evalOp] at he
    split at he <;> cases he
    rename_i hx
    exact R.lenStr (oev_k ho hx) (.same hp (.k _))
  | minmax isMax xs =>
    simp only [evalOp] at he
    split at he <;> cases he
    rename_i hx
    exact R.minmax (oints_ok ho hx) (.same hp (.k _))
  | extract x i =>
    simp only [evalOp] at he
    split at he
    · rename_i cs hx
      split at he <;> cases he
      rename_i hi
      obtain ⟨a, ha, va⟩ := oev_ok ho hx
      cases va with
      | tu hr => obtain ⟨av, q1, q2⟩ := hr.get hi; exact R.extract ha q1 (.same hp q2)
    · cases he
  | call f args =>
    simp only [evalOp] at he
    split at he
    · rename_i hc
      split at he
      · rename_i es hes
        obtain ⟨as, q1, q2⟩ := oevs_ok ho hes
        exact R.call hc q1 (hcall f es H e H' he ρ h₀ as h hp q2)
      · cases he
    · split at he
      · cases he
      · rename_i hc1 hc2
        split at he
        · rename_i es hes
          obtain ⟨as, q1, q2⟩ := oevs_ok ho hes
          split at he
          · rename_i e1 H1 hcl
            split at he
            · rename_i y hy
              split at he <;> cases he
              rename_i hpre
              have hpre' : ∀ (i : Nat) (o : EBlk), H[i]? = some o → H1[i]? = some o := preBeq_ok hpre
              refine R.callQ (x := y) hc2 q1 (ACalls.weak ((hcall f es H e1 H1 hcl ρ h₀ as h hp q2).mono fun x' h' ⟨ρ', r1, r2, r3⟩ => ?_)) (.same hp (closed_rv hy))
              exact ⟨y, h, (closed_ok (ρ := ρ) r3 hy).1, hp.ext r2 r1 hpre', rfl, rfl⟩
            · cases he
          · cases he
        · cases he
  | makeMap =>
    simp only [evalOp] at he
    split at he <;> cases he
    rename_i hc
    exact R.makeMap hc fun b hb => ⟨ρ.addB H.length b, hp.addB_le b, hp.alloc hb (.inr ⟨rfl, rfl⟩), .mp (by simp [Ren.addB, Ren.addBT])⟩
  | append sz bytes z x y =>
    simp only [evalOp] at he
    split at he
    · rename_i hc
      split at he
      · rename_i d s hd hs
        split at he
        · rename_i xs cc ys hD hS
          split at he
          · rename_i hl
            obtain ⟨h1, h2, h3⟩ := hl
            obtain ⟨a, ha, va⟩ := oev_ok ho hd
            obtain ⟨b, hb, vb⟩ := oev_ok ho hs
            obtain ⟨bs, q1, q2⟩ := src_ok hS vb
            have hcc : cc ≠ .ro := fun e => by subst e; cases he
            obtain ⟨as, c', p1, p2, p3⟩ := dst_ok hD hcc va
            have l1 := p2.length
            have l2 := q2.length
            split at he
            · cases p3
              split at he
              · rename_i how
                cases he
                have hxs : xs = [] := List.eq_nil_of_length_eq_zero how.2.1
                subst hxs
                cases p2
                have hone := ones_ok q2 h1
                have hfl := q2.flat
                refine R.appendBox hc ha p1 hb q1 hone (fun e => by subst e; exact how.2.2 l2.symm) (by rw [l2]; simpa using h2) (by rw [l2]; simpa using h3) fun b' cap hb' hcap hmax => ?_
                rw [l2]
                refine ⟨ρ.addBT H.length b' _ cap, hp.addBT_le b' _ cap, hp.allocT hb' (.inl ⟨_, _, rfl, rfl, hfl.mono (hp.addBT_le b' _ cap)⟩), .slb _ _ (by simp [Ren.addBT]) (by simp [Ren.addBT])⟩
              cases he
              refine R.append hc ha p1 (.full) hb q1 (ones_ok q2 h1) (by rw [l1, l2]; exact h2) (by rw [l1, l2]; exact h3) fun c2 h2' ho2 => ?_
              exact ⟨_, hp.addC_le c2, hp.grown (.inl ⟨rfl, rfl⟩) ho2, .sl sz ((p2.append q2).mono (hp.addC_le c2)) (.tok (by simp [Ren.addC]))⟩
            · rename_i _ i
              split at he <;> cases he
              rename_i hi
              cases p3 with
              | tok hci =>
                obtain ⟨c1, g1, g2⟩ := hp.grow i hi
                rw [hci] at g1; cases g1
                have hlen : (H.set i .dead).length = H.length := by simp
                rcases g2 with rfl | ⟨b0, u, s0, rfl, g3, g4⟩
                · have hp' := hp.kill hi hci
                  refine R.append hc ha p1 (.full) hb q1 (ones_ok q2 h1) (by rw [l1, l2]; exact h2) (by rw [l1, l2]; exact h3) fun c2 h2' ho2 => ?_
                  have hle := hp'.addC_le c2
                  have hg := hp'.grown (.inl ⟨rfl, rfl⟩) ho2
                  rw [hlen] at hle hg
                  exact ⟨_, hle, hg, .sl sz ((p2.append q2).mono hle) (.tok (by simp [Ren.addC]))⟩
                · have hdel : (h.del b0).set b0 (.grow u s0) = h := by
                    funext x; simp only [AHeap.set, AHeap.del]; split <;> simp_all
                  have hown : Own (h.del b0) (.tok b0 u s0) h := by
                    have := Own.tok (h₀ := h.del b0) (b := b0) (u := u) (s := s0) (by simp)
                    rwa [hdel] at this
                  refine R.append hc ha p1 hown hb q1 (ones_ok q2 h1) (by rw [l1, l2]; exact h2) (by rw [l1, l2]; exact h3) fun c2 h2' ho2 => ?_
                  exact ⟨_, hp.addC_le c2, hp.grown (.inr ⟨i, b0, u, s0, rfl, hi, hci, rfl⟩) ho2, .sl sz ((p2.append q2).mono (hp.addC_le c2)) (.tok (by simp [Ren.addC]))⟩
            · cases he
          · cases he
        · cases he
      · cases he
    · split at he
      · rename_i d s hd hs
        split at he
        · rename_i xs ys hD hS
          split at he <;> cases he
          rename_i hl
          obtain ⟨h1, h2, h3⟩ := hl
          obtain ⟨a, ha, va⟩ := oev_ok ho hd
          obtain ⟨b, hb, vb⟩ := oev_ok ho hs
          obtain ⟨bs, q1, q2⟩ := src_ok hS vb
          obtain ⟨as, c', p1, p2, p3⟩ := dst_ok hD (by simp) va
          cases p3
          have l1 := p2.length
          have l2 := q2.length
          exact R.appendV ha p1 hb q1 (ones_ok q2 h1) (by rw [l1, l2]; exact h2) (by rw [l1, l2]; exact h3) (.same hp (.sl sz (p2.append q2) .ro))
        · cases he
      · cases he
  | callv g args =>
    simp only [evalOp] at he
    split at he
    · rename_i hc
      split at he
      · rename_i f cap es hg hes
        obtain ⟨a, ha, va⟩ := oev_ok ho hg
        obtain ⟨as, q1, q2⟩ := oevs_ok ho hes
        cases va with
        | fn _ vs hvs =>
          refine R.callv hc ha (hplain f _ _ _ _ he) q1 ?_
          have := hcall f (es ++ cap) H e H' he ρ h₀ (as ++ vs.map .v) h hp (q2.append hvs)
          simpa using this
      · cases he
    · cases he
  | makeFunc fn first cap =>
    cases fn with
    | func f =>
      simp only [evalOp] at he
      split at he <;> cases he
      rename_i hf hcap
      obtain ⟨vs, q1, q2⟩ := oatoms_ok ho hf
      obtain ⟨ws, q3, q4⟩ := oatoms_ok ho hcap
      have : vs = [] := by cases vs with | nil => rfl | cons _ _ => cases q2
      subst this
      exact R.makeFunc q1 q3 (.same hp (.fn f ws q4))
    | _ => simp [evalOp] at he
  | lookup kt z x y ok =>
    simp only [evalOp] at he
    split at he
    · cases he
    · rename_i hc
      split at he
      · rename_i i ye q hx hy hq
        split at he
        · rename_i es key hH hkey
          split at he
          · rename_i hk
            obtain ⟨hk1, hk2⟩ := hk
            rw [List.all_eq_true] at hk2
            obtain ⟨b, as, hρ, hxa, hm, m1, m2⟩ := maps_at (hp := hp) hH ho hx
            obtain ⟨ya, hya, vya⟩ := oev_ok ho hy
            have KL := hkk kt q hq
            have hall : ∀ p ∈ as, q.set p.1 := fun p hpm => by
              obtain ⟨j, hj⟩ := List.getElem?_of_mem hpm
              obtain ⟨e', he'⟩ := ents_back m1 hj
              exact KK.is_ok (hk2 _ (List.mem_of_getElem? he'))
            split at he
            · rename_i hfi
              cases he
              have hno := findI_none hfi
              have none_at : ∀ (j : Nat) (av : AV), as[j]? = some (key, av) → False := fun j av hj => by
                obtain ⟨e', he'⟩ := ents_back m1 hj
                have h1 := hno _ (List.mem_of_getElem? he')
                have := (keq_ok (hk2 _ (List.mem_of_getElem? he')) hk1).2 rfl
                rw [h1] at this; cases this
              cases ok with
              | false => exact R.lookupR KL hc hxa hm hya (key?_ok vya hkey) (KK.is_ok hk1) hall (r := .v z) (fun _ => rfl) (fun j av hj => (none_at j av hj).elim) (.same hp (.k z))
              | true => exact R.lookupOkR KL hc hxa hm hya (key?_ok vya hkey) (KK.is_ok hk1) hall (r := .tu [.v z, .v (.bool false)]) (fun _ => rfl) (fun j av hj => (none_at j av hj).elim) (.same hp (.tu (.cons (.k z) (.cons (.k _) .nil))))
            · rename_i j hfi
              split at he
              · rename_i p hpj
                cases he
                obtain ⟨m, hm1, ⟨p', hp1, hp2⟩, huniq⟩ := findI_some hfi
                have hmj : m = j := by omega
                subst hmj
                rw [hpj] at hp1; cases hp1
                have hpk : p.1 = key := (keq_ok (hk2 _ (List.mem_of_getElem? hpj)) hk1).1 hp2
                obtain ⟨av, ha1, ha2⟩ := ents_ok m1 m2 hpj
                have hmem : ∀ (P : Prop), (∀ p ∈ as, p.1 ≠ key) → P := fun _ hn => absurd hpk (hn _ (List.mem_of_getElem? ha1))
                have hyes : ∀ (j' : Nat) (av' : AV), as[j']? = some (key, av') → av = av' := fun j' av' hj' => by
                  obtain ⟨e', he'⟩ := ents_back m1 hj'
                  have := huniq j' _ he' ((keq_ok (hk2 _ (List.mem_of_getElem? he')) hk1).2 rfl)
                  subst this
                  rw [ha1] at hj'; cases hj'; rfl
                cases ok with
                | false => exact R.lookupR KL hc hxa hm hya (key?_ok vya hkey) (KK.is_ok hk1) hall (r := av) (fun hn => hmem _ hn) (fun j' av' hj' => hyes j' av' hj') (.same hp ha2)
                | true => exact R.lookupOkR KL hc hxa hm hya (key?_ok vya hkey) (KK.is_ok hk1) hall (r := .tu [av, .v (.bool true)]) (fun hn => hmem _ hn) (fun j' av' hj' => by rw [hyes j' av' hj']) (.same hp (.tu (.cons ha2 (.cons (.k _) .nil))))
              · cases he
            · cases he
          · cases he
        · cases he
      · cases he
  | mapUpdate kt m x y =>
    simp only [evalOp] at he
    split at he
    · rename_i hc
      split at he
      · rename_i i xe ye q hm hx hy hq
        split at he
        · rename_i es key hH hkey
          split at he
          · rename_i hk
            obtain ⟨hk1, hk2⟩ := hk
            rw [List.all_eq_true] at hk2
            obtain ⟨b, as, hρ, hma, hmb, m1, m2⟩ := maps_at (hp := hp) hH ho hm
            obtain ⟨xa, hxa, vxa⟩ := oev_ok ho hx
            obtain ⟨ya, hya, vya⟩ := oev_ok ho hy
            have KL := hkk kt q hq
            have hall : ∀ p ∈ as, q.set p.1 := fun p hpm => by
              obtain ⟨j, hj⟩ := List.getElem?_of_mem hpm
              obtain ⟨e', he'⟩ := ents_back m1 hj
              exact KK.is_ok (hk2 _ (List.mem_of_getElem? he'))
            split at he
            · rename_i hfi
              cases he
              have hno := findI_none hfi
              refine R.mapUpdateR KL hc hma hmb hxa (key?_ok vxa hkey) hya (KK.is_ok hk1) hall (fun _ => ?_) (fun j av hj => ?_)
              · refine ⟨ρ, .refl ρ, hp.turn hρ (.inr ⟨_, _, rfl, rfl, by simp [m1], ?_⟩), .k _⟩
                simp only [List.map_append, List.map_cons, List.map_nil]
                exact m2.append (.cons vya .nil)
              · exfalso
                obtain ⟨e', he'⟩ := ents_back m1 hj
                have h1 := hno _ (List.mem_of_getElem? he')
                have := (keq_ok (hk2 _ (List.mem_of_getElem? he')) hk1).2 rfl
                rw [h1] at this; cases this
            · rename_i j hfi
              cases he
              obtain ⟨m', hm1, ⟨p', hp1, hp2⟩, huniq⟩ := findI_some hfi
              have hmj : m' = j := by omega
              subst hmj
              have hpk : p'.1 = key := (keq_ok (hk2 _ (List.mem_of_getElem? hp1)) hk1).1 hp2
              obtain ⟨av, ha1, ha2⟩ := ents_ok m1 m2 hp1
              refine R.mapUpdateR KL hc hma hmb hxa (key?_ok vxa hkey) hya (KK.is_ok hk1) hall (fun hn => absurd hpk (hn _ (List.mem_of_getElem? ha1))) (fun j' av' hj' => ?_)
              obtain ⟨e', he'⟩ := ents_back m1 hj'
              have := huniq j' _ he' ((keq_ok (hk2 _ (List.mem_of_getElem? he')) hk1).2 rfl)
              subst this
              refine ⟨ρ, .refl ρ, hp.turn hρ (.inr ⟨_, _, rfl, rfl, ?_, ?_⟩), .k _⟩
              · rw [List.map_set, List.map_set, m1]
              · rw [List.map_set, List.map_set]; exact m2.set _ vya
            · cases he
          · cases he
        · cases he
      · cases he
    · cases he
  | rangeMap x =>
    simp only [evalOp] at he
    split at he
    · rename_i hc
      split at he
      · rename_i hx
        cases he
        exact R.rangeNil hc (oev_k ho hx) fun b hb => ⟨_, hp.addO_le _, hp.newObj hb rfl .iterN, .it (by simp [Ren.addO]; rfl)⟩
      · rename_i i hx
        split at he <;> cases he
        rename_i es hH
        obtain ⟨b, as, hρ, hxa, hm, m1, m2⟩ := maps_at (hp := hp) hH ho hx
        exact R.rangeMap hc hxa hm fun b' s hb => ⟨_, hp.addO_le _, hp.newObj hb rfl (.iter hρ), .it (by simp [Ren.addO]; rfl)⟩
      · cases he
    · cases he
  | nextMap x =>
    simp only [evalOp] at he
    split at he
    · rename_i hc
      split at he
      · rename_i i hx
        obtain ⟨a, ha, va⟩ := oev_ok ho hx
        cases va with
        | it hb =>
          split at he
          · rename_i hH
            cases he
            obtain ⟨x', a', g1, g2, g3, g4⟩ := hp.obj i _ hH rfl
            rw [hb] at g1; cases g1
            cases g4
            exact R.nextNil hc ha g2 (.same hp (.tu (.cons (.k _) .nil)))
          · rename_i m hH
            split at he <;> cases he
            rename_i hm
            obtain ⟨x', a', g1, g2, g3, g4⟩ := hp.obj i _ hH rfl
            rw [hb] at g1; cases g1
            cases g4 with
            | iter hbm =>
              obtain ⟨b', as, q1, q2, q3, _⟩ := hp.map m [] hm
              rw [hbm] at q1; cases q1
              have : as = [] := by simpa using q3
              subst this
              exact R.nextNone hc ha g2 q2 (.same hp (.tu (.cons (.k _) .nil)))
          · cases he
      · cases he
    · cases he
  | _ => simp [evalOp] at he
end
end Go.Av
