/-
  AdyaDeps answers true for every history
-/
import Derived.Test.YthfolomknkobkaaP2
import Derived.OrdersIn
import Derived.RangeFuncIn
import Derived.RangeFuncRecord
set_option linter.unusedVariables false
namespace Go.Av
abbrev AEnv := Nat → Option AV
def AEnv.put (E : AEnv) (dst : Option Tmp) (x : AV) : AEnv :=
  match dst with
  | none => E
  | some d => fun t => if t = d then some x else E t
def EnvRel (st : Store) (E : AEnv) (tmps : Array Value) : Prop := ∀ t x, E t = some x → ∃ u, tmps[t]? = some u ∧ VRel st x u
theorem EnvRel.mono {st st' : Store} (hle : st.le st') {E : AEnv} {tmps : Array Value} (h : EnvRel st E tmps) : EnvRel st' E tmps :=
  fun t x hx => let ⟨u, h1, h2⟩ := h t x hx; ⟨u, h1, h2.mono hle⟩
theorem EnvRel.put {st : Store} {E : AEnv} {a : Act} {dst : Option Tmp} {x : AV} {u : Value} (h : EnvRel st E a.tmps) (hx : VRel st x u) (hd : ∀ d, dst = some d → d < a.tmps.size) :
    EnvRel st (E.put dst x) (a.put dst u).tmps := by
  cases dst with
  | none => exact h
  | some d =>
    intro t y hy
    simp only [AEnv.put] at hy
    by_cases ht : t = d
    · subst ht
      simp only [if_true, Option.some.injEq] at hy
      subst hy
      exact ⟨u, by simp [Act.put, hd t rfl], hx⟩
    · rw [if_neg ht] at hy
      obtain ⟨v, h1, h2⟩ := h t y hy
      exact ⟨v, by simp [Act.put, Array.getElem?_setIfInBounds_ne (Ne.symm ht), h1], h2⟩
def aev (E : AEnv) : Operand → Option AV
  | .tmp t => E t
  | .const v => some (.v v)
  | .global g => some (.v (.pointer (some ⟨g, 0, none⟩)))
  | .func f => some (.v (.func (.func f) #[] #[]))
theorem aev_rel {st : Store} {E : AEnv} {a : Act} (h : EnvRel st E a.tmps) {x : Operand} {av : AV} (hx : aev E x = some av) : VRel st av (a.eval x) := by
  cases x with
  | tmp t =>
    obtain ⟨u, h1, h2⟩ := h t av hx
    simpa [Act.eval, h1] using h2
  | const v => simp only [aev, Option.some.injEq] at hx; subst hx; exact .v v
  | global g => simp only [aev, Option.some.injEq] at hx; subst hx; exact .v _
  | func f => simp only [aev, Option.some.injEq] at hx; subst hx; exact .v _
structure St (n : Nat) (ds : List Deferred) (E : AEnv) (h : AHeap) (a : Act) (w : World) : Prop where
  defers : a.defers = ds
  size : a.tmps.size = n
  env : EnvRel (stab h w) E a.tmps
  rel : Rel h w
theorem Act.put_size (a : Act) (dst : Option Tmp) (v : Value) : (a.put dst v).tmps.size = a.tmps.size := by cases dst <;> simp [Act.put]
theorem Act.put_def (a : Act) (dst : Option Tmp) (v : Value) : (a.put dst v).defers = a.defers := by cases dst <;> rfl
theorem St.put {n : Nat} {ds : List Deferred} {E : AEnv} {h h' : AHeap} {a : Act} {w w' : World} (hs : St n ds E h a w) {dst : Option Tmp} (hd : ∀ d, dst = some d → d < n) {x : AV} {u : Value}
    (hr : Rel h' w') (he : Evol h w h' w') (hx : VRel (stab h' w') x u) : St n ds (E.put dst x) h' (a.put dst u) w' :=
  ⟨by rw [Act.put_def]; exact hs.defers, by rw [Act.put_size]; exact hs.size, (hs.env.mono he.stab).put hx (by rw [hs.size]; exact hd), hr⟩
def wideR (ro : Option Nat) : Fence := { fn := fun _ => True, depth := none, alive := false, round := ro }
def AOp (P : Program) (o : Oper) (E : AEnv) (h : AHeap) (K : AV → AHeap → Prop) : Prop :=
  ∀ ro a w, (∀ x ∈ o.op.operands, ∀ av, aev E x = some av → VRel (stab h w) av (a.eval x)) → Rel h w →
    o.wpIn (wideR ro) 0 P a w (fun a' w' => ∃ u x h', a' = a.put o.dst u ∧ K x h' ∧ VRel (stab h' w') x u ∧ Rel h' w' ∧ Evol h w h' w') (fun _ _ _ => False)
theorem AOp.mono {P : Program} {o : Oper} {E : AEnv} {h : AHeap} {K K' : AV → AHeap → Prop} (ha : AOp P o E h K) (hk : ∀ x h', K x h' → K' x h') : AOp P o E h K' :=
  fun ro a w h1 h2 => Oper.wpIn_mono (fun _ _ ⟨u, x, h', e1, e2, e3⟩ => ⟨u, x, h', e1, hk _ _ e2, e3⟩) (ha ro a w h1 h2)
theorem AOp.congr {P : Program} {o : Oper} {E E' : AEnv} {h : AHeap} {K : AV → AHeap → Prop} (ha : AOp P o E h K) (he : ∀ x ∈ o.op.operands, aev E' x = aev E x) : AOp P o E' h K :=
  fun ro a w h1 h2 => ha ro a w (fun x hx av hav => h1 x hx av (by rw [he x hx]; exact hav)) h2
inductive Cls where
  | pure | read | act
  deriving DecidableEq, Inhabited
def RSem (P : Program) (c : Cls) (o : Oper) (E : AEnv) (h : AHeap) (K : AV → AHeap → Prop) : Prop :=
  match c with
  | .pure => ∃ x, (∀ h', AOp P o E h' (fun x' h'' => x' = x ∧ h'' = h')) ∧ K x h
  | .read => ∃ x, AOp P o E h (fun x' h'' => x' = x ∧ h'' = h) ∧ K x h
  | .act => AOp P o E h K
theorem RSem.toAOp {P : Program} {c : Cls} {o : Oper} {E : AEnv} {h : AHeap} {K : AV → AHeap → Prop} (hs : RSem P c o E h K) : AOp P o E h K := by
  cases c with
  | pure => obtain ⟨x, h1, h2⟩ := hs; exact (h1 h).mono fun x' h' ⟨e1, e2⟩ => by subst e1; subst e2; exact h2
  | read => obtain ⟨x, h1, h2⟩ := hs; exact h1.mono fun x' h' ⟨e1, e2⟩ => by subst e1; subst e2; exact h2
  | act => exact hs
theorem RSem.mono {P : Program} {c : Cls} {o : Oper} {E : AEnv} {h : AHeap} {K K' : AV → AHeap → Prop} (hs : RSem P c o E h K) (hk : ∀ x h', K x h' → K' x h') : RSem P c o E h K' := by
  cases c with
  | pure => obtain ⟨x, h1, h2⟩ := hs; exact ⟨x, h1, hk _ _ h2⟩
  | read => obtain ⟨x, h1, h2⟩ := hs; exact ⟨x, h1, hk _ _ h2⟩
  | act => exact AOp.mono hs hk
theorem RSem.congr {P : Program} {c : Cls} {o : Oper} {E E' : AEnv} {h : AHeap} {K : AV → AHeap → Prop} (hs : RSem P c o E h K) (he : ∀ x ∈ o.op.operands, aev E' x = aev E x) : RSem P c o E' h K := by
  cases c with
  | pure => obtain ⟨x, h1, h2⟩ := hs; exact ⟨x, fun h' => (h1 h').congr he, h2⟩
  | read => obtain ⟨x, h1, h2⟩ := hs; exact ⟨x, h1.congr he, h2⟩
  | act => exact AOp.congr hs he
def awant (ops : Array Oper) (o : Oper) (E : AEnv) : Option Bool :=
  match o.guard with
  | none => some true
  | some (j, want) =>
    match (ops[j]?).bind (·.dst) with
    | none => some false
    | some t =>
      match E t with
      | some (.v (.bool b)) => some (b == want)
      | some (.v _) => some false
      | _ => none
theorem awant_spec {ops : Array Oper} {o : Oper} {E : AEnv} {st : Store} {tmps : Array Value} (he : EnvRel st E tmps) {b : Bool} (hw : awant ops o E = some b) : Region.wanted o (yielded ops tmps) = b := by
  unfold awant at hw
  unfold Region.wanted
  cases hg : o.guard with
  | none => simp [hg] at hw; simp [hw]
  | some gw =>
    obtain ⟨j, want⟩ := gw
    simp only [hg] at hw ⊢
    unfold yielded
    cases ht : (ops[j]?).bind (·.dst) with
    | none => simp [ht] at hw ⊢; exact hw
    | some t =>
      simp only [ht] at hw
      cases hx : E t with
      | none => simp [hx] at hw
      | some x =>
        obtain ⟨u, h1, h2⟩ := he t x hx
        simp only [hx] at hw
        cases x with
        | v y =>
          cases h2
          cases u <;> simp at hw <;> simp [h1, hw]
        | _ => simp at hw
section
variable {P : Program} {ops : Array Oper} {n : Nat} {ds : List Deferred} {cls : Nat → Cls}
def aStep (P : Program) (ops : Array Oper) (cls : Nat → Cls) (i : Nat) (K : AEnv → AHeap → Prop) (E : AEnv) (h : AHeap) : Prop :=
  match ops[i]? with
  | none => K E h
  | some o =>
    match awant ops o E with
    | some true => RSem P (cls i) o E h (fun x h' => K (E.put o.dst x) h')
    | some false => K (E.put o.dst (.v undef)) h
    | none => False
theorem aStep_mono {i : Nat} {E : AEnv} {h : AHeap} {K K' : AEnv → AHeap → Prop} (hk : ∀ E h, K E h → K' E h) (hs : aStep P ops cls i K E h) : aStep P ops cls i K' E h := by
  unfold aStep at *
  split
  · simp_all
  · rename_i o ho
    simp only [ho] at hs
    split
    · rename_i hw; simp only [hw] at hs; exact hs.mono fun _ _ => hk _ _
    · rename_i hw; simp only [hw] at hs; exact hk _ _ hs
    · rename_i hw; simp only [hw] at hs
def AAny (P : Program) (ops : Array Oper) (cls : Nat → Cls) (K : AEnv → AHeap → Prop) : Nat → Array Bool → AEnv → AHeap → Prop
  | 0, listed, E, h => Region.ready .any ops listed = [] ∧ K E h
  | fuel + 1, listed, E, h =>
    (Region.ready .any ops listed = [] → K E h) ∧
    ∀ i ∈ Region.ready .any ops listed, aStep P ops cls i (AAny P ops cls K fuel (listed.setIfInBounds i true)) E h
def After (n : Nat) (ds : List Deferred) (K : AEnv → AHeap → Prop) (h₀ : AHeap) (w₀ : World) (e : Exit) (a : Act) (w : World) : Prop :=
  e = .normal ∧ ∃ E h, K E h ∧ St n ds E h a w ∧ Evol h₀ w₀ h w
theorem wpOp_of_aStep {i : Nat} {K : AEnv → AHeap → Prop} {K' : Act → World → Prop} {Q : Exit → Act → World → Prop} {E : AEnv} {h : AHeap} {a : Act} {w : World} {ro : Option Nat}
    (hdst : ∀ (i : Nat) o, ops[i]? = some o → ∀ d, o.dst = some d → d < n) (hs : St n ds E h a w)
    (hk : ∀ E' h' a' w', K E' h' → St n ds E' h' a' w' → Evol h w h' w' → K' a' w') (hst : aStep P ops cls i K E h) : wpOpIn (wideR ro) 0 P ops Q i K' a w := by
  unfold aStep at hst
  unfold wpOpIn
  split
  · rename_i ho; simp only [ho] at hst; exact hk _ _ _ _ hst hs (.refl h w)
  · rename_i o ho
    simp only [ho] at hst
    split at hst
    · rename_i hw
      rw [awant_spec hs.env hw]
      have := hst.toAOp ro a w (fun x hx av hav => aev_rel hs.env hav) hs.rel
      have h2 := Oper.wpIn_mono (K' := K') (fun a' w' ⟨u, x, h', e1, e2, e3, e4, e5⟩ => by subst e1; exact hk _ _ _ _ e2 (hs.put (hdst i o ho) e4 e5 e3) e5) this
      rw [if_pos rfl]
      refine ⟨h2.1, ?_⟩
      have h3 := h2.2
      revert h3
      generalize (o.semAt (wideR ro).round a.eval).run P w = r
      cases r with
      | ok m w' =>
        cases m <;> simp only [Oper.uponIn] <;> try exact id
        · exact fun hc => ⟨hc.1, hc.2.mono fun e w'' he => by cases e <;> simp_all [LetsOut]⟩
        · exact fun hc => ⟨hc.1, hc.2.mono fun e w'' he => by cases e <;> simp_all [LetsOut]⟩
      | halt x w' => cases x <;> simp only [Oper.uponIn] <;> exact fun hf => hf.elim
    · rename_i hw
      rw [awant_spec hs.env hw]
      exact ⟨fun _ _ => trivial, hk _ _ _ _ hst (hs.put (hdst i o ho) hs.rel (.refl h w) (.v undef)) (.refl h w)⟩
    · exact hst.elim
theorem wpAny_of_AAny {ro : Option Nat} {K : AEnv → AHeap → Prop} {h₀ : AHeap} {w₀ : World} (hdst : ∀ (i : Nat) o, ops[i]? = some o → ∀ d, o.dst = some d → d < n) : ∀ (fuel : Nat) (listed : Array Bool) (E : AEnv) (h : AHeap) (a : Act) (w : World),
    St n ds E h a w → Evol h₀ w₀ h w → AAny P ops cls K fuel listed E h → wpAnyIn (wideR ro) 0 P .any ops (After n ds K h₀ w₀) fuel listed a w
  | 0, _, E, h, _, _, hs, he, ha => ⟨ha.1, rfl, E, h, ha.2, hs, he⟩
  | fuel + 1, _, E, h, _, _, hs, he, ha =>
    ⟨fun hn => ⟨rfl, E, h, ha.1 hn, hs, he⟩, fun i hi => wpOp_of_aStep hdst hs (fun E' h' a' w' hk hs' he' => wpAny_of_AAny hdst fuel _ E' h' a' w' hs' (he.trans he') hk) (ha.2 i hi)⟩
def ancs (acc : List Nat) : List Oper → List Nat
  | [] => acc
  | o :: os => ancs (acc ++ [o.after.toList.foldl (fun s e => if Region.binds .any e then s ||| 2 ^ e.on ||| acc.getD e.on 0 else s) 0]) os
theorem fold_mask (acc : List Nat) (i : Nat) : ∀ (l : List Edge) (s : Nat),
    (l.foldl (fun s e => if Region.binds .any e then s ||| 2 ^ e.on ||| acc.getD e.on 0 else s) s).testBit i = true → s.testBit i = true ∨ ∃ e ∈ l, Region.binds .any e = true ∧ (e.on = i ∨ (acc.getD e.on 0).testBit i = true)
  | [], s, h => .inl h
  | e :: l, s, h => by
    rcases fold_mask acc i l _ h with h1 | ⟨e', h1, h2⟩
    · simp only at h1
      split at h1
      · rename_i hb
        simp only [Nat.testBit_or, Bool.or_eq_true] at h1
        rcases h1 with (h1 | h1) | h1
        · exact .inl h1
        · refine .inr ⟨e, by simp, hb, .inl ?_⟩
          rw [Nat.testBit_two_pow] at h1
          simpa using h1
        · exact .inr ⟨e, by simp, hb, .inr h1⟩
      · exact .inl h1
    · exact .inr ⟨e', by simp [h1], h2⟩
theorem ancs_prefix : ∀ (os : List Oper) (acc : List Nat) (j : Nat), j < acc.length → (ancs acc os).getD j 0 = acc.getD j 0
  | [], _, _, _ => rfl
  | o :: os, acc, j, h => by
    simp only [ancs]
    rw [ancs_prefix os _ j (by simp; omega)]
    simp [List.getD, List.getElem?_append_left h]
theorem ancs_spec : ∀ (os : List Oper) (acc : List Nat) (j i : Nat) (o : Oper), os[j]? = some o → ((ancs acc os).getD (acc.length + j) 0).testBit i = true →
    ∃ e ∈ o.after, Region.binds .any e = true ∧ (e.on = i ∨ (e.on < acc.length + j ∧ ((ancs acc os).getD e.on 0).testBit i = true))
  | [], _, _, _, _, h, _ => by simp at h
  | o :: os, acc, 0, i, o', h, hb => by
    simp at h
    subst h
    simp only [ancs, Nat.add_zero] at hb
    rw [ancs_prefix os _ acc.length (by simp)] at hb
    simp only [List.getD_eq_getElem?_getD, List.getElem?_append_right (Nat.le_refl _), Nat.sub_self, List.getElem?_cons_zero, Option.getD_some] at hb
    rcases fold_mask acc i _ _ hb with h1 | ⟨e, he, h1, h2⟩
    · simp at h1
    · refine ⟨e, by simpa using he, h1, ?_⟩
      rcases h2 with h2 | h2
      · exact .inl h2
      · have hlt : e.on < acc.length := by
          rcases Nat.lt_or_ge e.on acc.length with h' | h'
          · exact h'
          · simp [List.getD, List.getElem?_eq_none h'] at h2
        refine .inr ⟨by omega, ?_⟩
        simp only [ancs]
        rw [ancs_prefix os _ e.on (by simp; omega)]
        simpa [List.getD, List.getElem?_append_left hlt] using h2
  | o :: os, acc, j + 1, i, o', h, hb => by
    simp only [ancs] at hb ⊢
    have hl : acc.length + (j + 1) = (acc ++ [o.after.toList.foldl (fun s e => if Region.binds .any e then s ||| 2 ^ e.on ||| acc.getD e.on 0 else s) 0]).length + j := by simp; omega
    rw [hl] at hb ⊢
    exact ancs_spec os _ j i o' (by simpa using h) hb
def waits (ops : Array Oper) (j i : Nat) : Bool := ((ancs [] ops.toList).getD j 0).testBit i
theorem waits_spec {ops : Array Oper} {j i : Nat} {o : Oper} (ho : ops[j]? = some o) (h : waits ops j i = true) :
    ∃ e ∈ o.after, Region.binds .any e = true ∧ (e.on = i ∨ (e.on < j ∧ waits ops e.on i = true)) := by
  have := ancs_spec ops.toList [] j i o (by simpa using ho) (by simpa [waits] using h)
  simpa [waits] using this
def closed (ops : Array Oper) (listed : Array Bool) : Prop := ∀ (j : Nat) o, ops[j]? = some o → listed.getD j false = true → ∀ e ∈ o.after, Region.binds .any e = true → listed.getD e.on false = true
theorem closed.waits {listed : Array Bool} (hc : closed ops listed) : ∀ (j : Nat) (i : Nat) o, ops[j]? = some o → (∀ e ∈ o.after, Region.binds .any e = true → listed.getD e.on false = true) → Av.waits ops j i = true → listed.getD i false = true := by
  intro j
  induction j using Nat.strongRecOn with
  | ind j ih =>
    intro i o ho hl hw
    obtain ⟨e, he, hb, h | ⟨hlt, hw'⟩⟩ := waits_spec ho hw
    · subst h; exact hl e he hb
    · have hj : j < ops.size := (Array.getElem?_eq_some_iff.1 ho).1
      obtain ⟨o', ho'⟩ : ∃ o', ops[e.on]? = some o' := ⟨ops[e.on]'(by omega), by simp⟩
      exact ih e.on hlt i o' ho' (hc e.on o' ho' (hl e he hb)) hw'
theorem closed.set {listed : Array Bool} (hc : closed ops listed) {i : Nat} (hi : i ∈ Region.ready .any ops listed) : closed ops (listed.setIfInBounds i true) := by
  intro j o ho hl e he hb
  refine getD_set_true ?_
  by_cases hij : i = j
  · subst hij
    obtain ⟨_, o', ho', hall⟩ := mem_ready.1 hi
    rw [ho'] at ho
    cases ho
    exact hall e he hb
  · rw [getD_set_ne false hij] at hl
    exact hc j o ho hl e he hb
def loose (ops : Array Oper) (cls : Nat → Cls) (k j : Nat) : Bool :=
  match ops[k]?, ops[j]? with
  | some ok, some oj => ok.apart ops oj && (match cls k, cls j with | .pure, _ => true | .read, .pure => true | .read, .read => true | _, _ => false)
  | _, _ => false
def orderOk (ops : Array Oper) (cls : Nat → Cls) : List Nat → Array Bool → Bool
  | [], listed => (Region.ready .any ops listed).isEmpty
  | k :: rest, listed => (Region.ready .any ops listed).contains k &&
      (List.range ops.size).all (fun j => j == k || listed.getD j true || waits ops j k || loose ops cls k j) && orderOk ops cls rest (listed.setIfInBounds k true)
def AYields (P : Program) (ops : Array Oper) (c : Cls) (o : Oper) (x : AV) (E : AEnv) (h : AHeap) : Prop :=
  (awant ops o E = some true ∧ (match c with | .pure => ∀ h', AOp P o E h' (fun x' h'' => x' = x ∧ h'' = h') | .read => AOp P o E h (fun x' h'' => x' = x ∧ h'' = h) | .act => False)) ∨
  (awant ops o E = some false ∧ x = .v undef)
theorem aev_put {E : AEnv} {dst : Option Tmp} {v : AV} {x : Operand} (h : ∀ d, dst = some d → x ≠ .tmp d) : aev (E.put dst v) x = aev E x := by
  cases dst with
  | none => rfl
  | some d =>
    cases x with
    | tmp t =>
      have hne : t ≠ d := fun e => h d rfl (e ▸ rfl)
      simp [aev, AEnv.put, hne]
    | _ => rfl
theorem AEnv.put_comm (E : AEnv) {x y : Option Tmp} (v u : AV) (h : ∀ d, x = some d → y ≠ some d) : (E.put x v).put y u = (E.put y u).put x v := by
  cases x with
  | none => rfl
  | some d =>
    cases y with
    | none => rfl
    | some e =>
      have hne : d ≠ e := fun he => h d rfl (he ▸ rfl)
      funext t
      simp only [AEnv.put]
      split <;> split <;> simp_all
theorem aev_looks {o : Oper} {E : AEnv} {dst : Option Tmp} {v : AV} (h : ∀ d, dst = some d → d ∉ o.looksAt ops) : ∀ x ∈ o.op.operands, aev (E.put dst v) x = aev E x :=
  fun x hx => aev_put fun d hd hxd => h d hd (by
    subst hxd
    exact List.mem_append_left _ (List.mem_filterMap.2 ⟨.tmp d, by simpa using hx, rfl⟩))
theorem awant_put {o : Oper} {E : AEnv} {dst : Option Tmp} {v : AV} (h : ∀ d, dst = some d → d ∉ o.looksAt ops) : awant ops o (E.put dst v) = awant ops o E := by
  cases dst with
  | none => rfl
  | some d =>
    unfold awant
    cases hg : o.guard with
    | none => rfl
    | some gw =>
      obtain ⟨g, want⟩ := gw
      simp only
      cases ht : (ops[g]?).bind (·.dst) with
      | none => rfl
      | some t =>
        have hne : t ≠ d := fun e => h d rfl (by subst e; simp [Oper.looksAt, hg, ht])
        simp [AEnv.put, hne]
theorem AYields.put {c : Cls} {o : Oper} {x : AV} {E : AEnv} {h : AHeap} (hy : AYields P ops c o x E h) {dst : Option Tmp} {v : AV} (hl : ∀ d, dst = some d → d ∉ o.looksAt ops) {h' : AHeap}
    (hh : c = .pure ∨ h' = h) : AYields P ops c o x (E.put dst v) h' := by
  unfold AYields at *
  rw [awant_put hl]
  rcases hy with ⟨h1, h2⟩ | hy
  · refine .inl ⟨h1, ?_⟩
    cases c with
    | pure => exact fun h'' => (h2 h'').congr (aev_looks hl)
    | read => obtain rfl := hh.resolve_left (by simp); exact AOp.congr h2 (aev_looks hl)
    | act => exact h2
  · exact .inr hy
theorem AYields.step {i : Nat} {o : Oper} {x : AV} {E : AEnv} {h : AHeap} (hi : ops[i]? = some o) (hy : AYields P ops (cls i) o x E h) {K : AEnv → AHeap → Prop} (hk : K (E.put o.dst x) h) : aStep P ops cls i K E h := by
  unfold aStep
  simp only [hi]
  rcases hy with ⟨h1, h2⟩ | ⟨h1, rfl⟩
  · simp only [h1]
    revert h2
    cases cls i with
    | pure => exact fun h2 => ⟨x, h2, hk⟩
    | read => exact fun h2 => ⟨x, h2, hk⟩
    | act => exact fun h2 => h2.elim
  · simp only [h1]; exact hk
theorem yields_of_step {i : Nat} {o : Oper} {E : AEnv} {h : AHeap} {K : AEnv → AHeap → Prop} (hi : ops[i]? = some o) (hc : cls i ≠ .act) (hs : aStep P ops cls i K E h) : ∃ x, AYields P ops (cls i) o x E h ∧ K (E.put o.dst x) h := by
  unfold aStep at hs
  simp only [hi] at hs
  split at hs
  · rename_i hw
    cases hci : cls i with
    | act => exact absurd hci hc
    | pure => rw [hci] at hs; obtain ⟨x, h1, h2⟩ := hs; exact ⟨x, .inl ⟨hw, h1⟩, h2⟩
    | read => rw [hci] at hs; obtain ⟨x, h1, h2⟩ := hs; exact ⟨x, .inl ⟨hw, h1⟩, h2⟩
  · rename_i hw; exact ⟨_, .inr ⟨hw, rfl⟩, hs⟩
  · exact hs.elim
theorem aStep_swap {k j : Nat} {ok oj : Oper} {x : AV} {E : AEnv} {h : AHeap} (hj : ops[j]? = some oj) (hap : ok.apart ops oj = true)
    (hcls : cls k = .pure ∨ (cls k = .read ∧ cls j ≠ .act)) {K : AEnv → AHeap → Prop} (hy : AYields P ops (cls k) ok x E h)
    (hs : aStep P ops cls j K (E.put ok.dst x) h) : aStep P ops cls j (fun E' h' => AYields P ops (cls k) ok x E' h' ∧ K (E'.put ok.dst x) h') E h := by
  obtain ⟨h1, h2, h3⟩ := Oper.apart_spec hap
  unfold aStep at *
  simp only [hj] at *
  rw [awant_put h1] at hs
  split at hs
  · rename_i hw
    have hs' := hs.congr (E' := E) (fun y hy' => (aev_looks (v := x) h1 y hy').symm)
    rcases hcls with hp | ⟨hr, hna⟩
    · exact hs'.mono fun y h' hk => ⟨hy.put h3 (.inl hp), by rw [← AEnv.put_comm E x y h2]; exact hk⟩
    · cases hcj : cls j with
      | act => exact absurd hcj hna
      | pure =>
        rw [hcj] at hs'
        obtain ⟨y, g1, g2⟩ := hs'
        exact ⟨y, g1, hy.put h3 (.inr rfl), by rw [← AEnv.put_comm E x y h2]; exact g2⟩
      | read =>
        rw [hcj] at hs'
        obtain ⟨y, g1, g2⟩ := hs'
        exact ⟨y, g1, hy.put h3 (.inr rfl), by rw [← AEnv.put_comm E x y h2]; exact g2⟩
  · rename_i hw
    exact ⟨hy.put h3 (.inr rfl), by rw [← AEnv.put_comm E x _ h2]; exact hs⟩
  · exact hs.elim
theorem loose_spec {k j : Nat} {ok oj : Oper} (hk : ops[k]? = some ok) (hj : ops[j]? = some oj) (h : loose ops cls k j = true) : ok.apart ops oj = true ∧ (cls k = .pure ∨ (cls k = .read ∧ cls j ≠ .act)) := by
  simp only [loose, hk, hj, Bool.and_eq_true] at h
  refine ⟨h.1, ?_⟩
  have h2 := h.2
  revert h2
  cases cls k <;> cases cls j <;> simp
theorem AAny_first {K : AEnv → AHeap → Prop} {k : Nat} {ok : Oper} {x : AV} (hk : ops[k]? = some ok) :
    ∀ (fuel : Nat) (listed : Array Bool) (E : AEnv) (h : AHeap), closed ops listed →
      (∀ j, j ≠ k → j < ops.size → listed.getD j true = false → waits ops j k = false → loose ops cls k j = true) →
      k ∈ Region.ready .any ops listed → AYields P ops (cls k) ok x E h →
      AAny P ops cls K fuel (listed.setIfInBounds k true) (E.put ok.dst x) h → AAny P ops cls K (fuel + 1) listed E h := by
  intro fuel
  induction fuel with
  | zero =>
    intro listed E h _ _ hr hy H
    refine ⟨fun h => (by rw [h] at hr; cases hr), fun j hj => ?_⟩
    by_cases hjk : j = k
    · subst hjk; exact hy.step hk H
    · have := ready_mono hj hjk
      rw [H.1] at this
      cases this
  | succ fuel ih =>
    intro listed E h hc hfree hr hy H
    refine ⟨fun h => (by rw [h] at hr; cases hr), fun j hj => ?_⟩
    by_cases hjk : j = k
    · subst hjk; exact hy.step hk H
    · have h1 := H.2 j (ready_mono hj hjk)
      obtain ⟨hjun, oj, hoj, hall⟩ := mem_ready.1 hj
      have hjs : j < ops.size := (Array.getElem?_eq_some_iff.1 hoj).1
      have hkun : listed.getD k false = false := by
        have h0 := (mem_ready.1 hr).1
        rcases Nat.lt_or_ge k listed.size with h' | h'
        · simp [h'] at h0 ⊢; exact h0
        · simp [Array.getElem?_eq_none h']
      have hnw : waits ops j k = false := by
        cases hw : waits ops j k with
        | false => rfl
        | true => have := hc.waits j k oj hoj hall hw; rw [hkun] at this; cases this
      obtain ⟨hap, hcl⟩ := loose_spec hk hoj (hfree j hjk hjs hjun hnw)
      have h2 := aStep_swap hoj hap hcl hy h1
      have hfree' : ∀ m, m ≠ k → m < ops.size → (listed.setIfInBounds j true).getD m true = false → waits ops m k = false → loose ops cls k m = true := fun m hm hms hun hno => by
        refine hfree m hm hms ?_ hno
        by_cases hjm : j = m
        · subst hjm; exact hjun
        · rw [getD_set_ne true hjm] at hun; exact hun
      refine aStep_mono (fun E' h' h3 => ih (listed.setIfInBounds j true) E' h' (hc.set hj) hfree' (ready_mono hr (Ne.symm hjk)) h3.1 ?_) h2
      rw [Array.setIfInBounds_comm _ _ hjk]
      exact h3.2
def AOrd (P : Program) (ops : Array Oper) (cls : Nat → Cls) (K : AEnv → AHeap → Prop) : List Nat → AEnv → AHeap → Prop
  | [], E, h => K E h
  | k :: rest, E, h => aStep P ops cls k (AOrd P ops cls K rest) E h
theorem AAny_of_ord {K : AEnv → AHeap → Prop} : ∀ (ord : List Nat) (listed : Array Bool) (E : AEnv) (h : AHeap), closed ops listed → orderOk ops cls ord listed = true → AOrd P ops cls K ord E h → AAny P ops cls K ord.length listed E h
  | [], listed, E, h, _, hB, H => ⟨by simpa [orderOk] using hB, H⟩
  | k :: rest, listed, E, h, hc, hB, H => by
    simp only [orderOk, Bool.and_eq_true, List.contains_iff_mem, List.all_eq_true, List.mem_range, Bool.or_eq_true, beq_iff_eq] at hB
    obtain ⟨⟨hr, hf⟩, hB'⟩ := hB
    obtain ⟨_, ok, hok, hall⟩ := mem_ready.1 hr
    have hc' := hc.set hr
    by_cases hact : cls k = .act
    · -- all others wait for k
      refine ⟨fun h => (by rw [h] at hr; cases hr), fun j hj => ?_⟩
      have hjk : j = k := by
        by_cases hjk : j = k
        · exact hjk
        · exfalso
          obtain ⟨hjun, oj, hoj, hall'⟩ := mem_ready.1 hj
          rcases hf j (Array.getElem?_eq_some_iff.1 hoj).1 with ((h1 | h1) | h1) | h1
          · exact hjk h1
          · rw [hjun] at h1; cases h1
          · have := hc.waits j k oj hoj hall' h1
            have h0 := (mem_ready.1 hr).1
            rcases Nat.lt_or_ge k listed.size with h' | h'
            · simp [h'] at h0 this; rw [h0] at this; cases this
            · simp [Array.getElem?_eq_none h'] at this
          · have := (loose_spec hok hoj h1).2
            simp [hact] at this
      subst hjk
      exact aStep_mono (fun E' h' h3 => AAny_of_ord rest _ E' h' hc' hB' h3) H
    · obtain ⟨x, hy, hK⟩ := yields_of_step hok hact H
      refine AAny_first hok rest.length listed E h hc ?_ hr hy (AAny_of_ord rest _ _ _ hc' hB' hK)
      intro j hjk hjs hun hnw
      rcases hf j hjs with ((h1 | h1) | h1) | h1
      · exact absurd h1 hjk
      · rw [hun] at h1; cases h1
      · rw [hnw] at h1; cases h1
      · exact h1
end
theorem orderOk_length {ops : Array Oper} {cls : Nat → Cls} {ord : List Nat} (hl : ord.length = ops.size) (hB : orderOk ops cls ord (Array.replicate ops.size false) = true) {P : Program} {K : AEnv → AHeap → Prop} {E : AEnv} {h : AHeap}
    (H : AOrd P ops cls K ord E h) : AAny P ops cls K ops.size (Array.replicate ops.size false) E h := by
  rw [← hl]
  refine AAny_of_ord ord _ E h ?_ (by rw [hl]; exact hB) H
  intro j o ho hlj
  simp only [Array.getD_eq_getD_getElem?, Array.getElem?_replicate] at hlj
  split at hlj <;> simp at hlj
theorem wp_region_draws {ro : Option Nat} {P : Program} {n id : Nat} {ds : List Deferred} {ops : Array Oper} {cls : Nat → Cls} {ord : List Nat} (hm : P.follows .mixedOrders = true) (hl : ord.length = ops.size)
    (hB : orderOk ops cls ord (Array.replicate ops.size false) = true) (hdst : ∀ (i : Nat) o, ops[i]? = some o → ∀ d, o.dst = some d → d < n) {K : AEnv → AHeap → Prop} {E : AEnv} {h : AHeap} {a : Act} {w : World}
    (hs : St n ds E h a w) (H : AOrd P ops cls K ord E h) : (Code.region id ops true).wpIn (wideR ro) 0 P (After n ds K h w) a w := by
  refine wpIn_region_any hm ?_
  have hs' : St n ds E h a w.drew := ⟨hs.defers, hs.size, by rw [stab_drew]; exact hs.env, hs.rel.drew⟩
  exact wpAny_of_AAny hdst _ _ _ _ _ _ hs' (.drew h w) (orderOk_length hl hB H)
theorem wpOps_of_ord {ro : Option Nat} {P : Program} {n : Nat} {ds : List Deferred} {ops : Array Oper} {cls : Nat → Cls} (hdst : ∀ (i : Nat) o, ops[i]? = some o → ∀ d, o.dst = some d → d < n) {K : AEnv → AHeap → Prop} {h₀ : AHeap} {w₀ : World} :
    ∀ (l : List Nat) (E : AEnv) (h : AHeap) (a : Act) (w : World), St n ds E h a w → Evol h₀ w₀ h w → AOrd P ops cls K l E h → wpOpsIn (wideR ro) 0 P ops (After n ds K h₀ w₀) l a w
  | [], E, h, _, _, hs, he, H => ⟨rfl, E, h, H, hs, he⟩
  | k :: l, E, h, a, w, hs, he, H => by
    rw [wpOpsIn_cons]
    exact wpOp_of_aStep hdst hs (fun E' h' a' w' hk hs' he' => wpOps_of_ord hdst l E' h' a' w' hs' (he.trans he') hk) H
theorem wp_region_text {ro : Option Nat} {P : Program} {n id : Nat} {ds : List Deferred} {ops : Array Oper} {cls : Nat → Cls} (hdst : ∀ (i : Nat) o, ops[i]? = some o → ∀ d, o.dst = some d → d < n) {K : AEnv → AHeap → Prop} {E : AEnv} {h : AHeap} {a : Act} {w : World}
    (hs : St n ds E h a w) (H : AOrd P ops cls K (List.range ops.size) E h) : (Code.region id ops false).wpIn (wideR ro) 0 P (After n ds K h w) a w :=
  wpIn_region (wpOps_of_ord hdst _ _ _ _ _ hs (.refl h w) H)
inductive OT where
  | done
  | step (k : Nat) (t : OT)
  | alt (k : Nat) (t r : OT)
  | stop
  deriving Inhabited
def OT.heads : OT → List Nat
  | .alt k _ r => k :: r.heads
  | _ => []
def OT.depth : OT → Nat
  | .done => 0
  | .step _ t => t.depth + 1
  | .alt _ t r => max (t.depth + 1) r.depth
  | .stop => 0
section
variable {P : Program} {ops : Array Oper} {cls : Nat → Cls}
def otOk (ops : Array Oper) (cls : Nat → Cls) : OT → Array Bool → Bool → Bool
  | .done, l, _ => (Region.ready .any ops l).isEmpty
  | .step k t, l, _ => (Region.ready .any ops l).contains k && (List.range ops.size).all (fun j => j == k || l.getD j true || waits ops j k || loose ops cls k j) && decide (cls k ≠ .act) && otOk ops cls t (l.setIfInBounds k true) true
  | .alt k t r, l, top => (!top || (Region.ready .any ops l).all fun j => (k :: r.heads).contains j) && (Region.ready .any ops l).contains k && otOk ops cls t (l.setIfInBounds k true) true && otOk ops cls r l false
  | .stop, _, top => !top
def AOrdT (P : Program) (ops : Array Oper) (cls : Nat → Cls) (K : AEnv → AHeap → Prop) : OT → AEnv → AHeap → Prop
  | .done, E, h => K E h
  | .step k t, E, h => aStep P ops cls k (AOrdT P ops cls K t) E h
  | .alt k t r, E, h => aStep P ops cls k (AOrdT P ops cls K t) E h ∧ AOrdT P ops cls K r E h
  | .stop, _, _ => True
theorem ot_head {K : AEnv → AHeap → Prop} {E : AEnv} {h : AHeap} {listed : Array Bool} {i : Nat} : ∀ {t : OT}, otOk ops cls t listed false = true → AOrdT P ops cls K t E h → i ∈ t.heads →
    ∃ t', otOk ops cls t' (listed.setIfInBounds i true) true = true ∧ aStep P ops cls i (AOrdT P ops cls K t') E h ∧ t'.depth + 1 ≤ t.depth ∧ i ∈ Region.ready .any ops listed
  | .done, _, _, hi => by cases hi
  | .step _ _, _, _, hi => by cases hi
  | .stop, _, _, hi => by cases hi
  | .alt k t r, hB, H, hi => by
    simp only [otOk, Bool.and_eq_true, List.contains_iff_mem] at hB
    obtain ⟨⟨⟨_, hr⟩, ht⟩, hrest⟩ := hB
    simp only [OT.heads, List.mem_cons] at hi
    rcases hi with rfl | hi
    · exact ⟨t, ht, H.1, by simp only [OT.depth]; omega, hr⟩
    · obtain ⟨t', h1, h2, h3, h4⟩ := ot_head hrest H.2 hi
      exact ⟨t', h1, h2, by simp only [OT.depth]; omega, h4⟩
theorem otOk_false {t : OT} {l : Array Bool} : ∀ {b : Bool}, (∃ k t1 r, t = .alt k t1 r) → otOk ops cls t l b = true → otOk ops cls t l false = true := by
  rintro b ⟨k, t1, r, rfl⟩ h
  simp only [otOk, Bool.and_eq_true] at h ⊢
  exact ⟨⟨⟨by simp, h.1.1.2⟩, h.1.2⟩, h.2⟩
theorem AAny_of_tree {K : AEnv → AHeap → Prop} : ∀ (fuel : Nat) (t : OT) (listed : Array Bool) (E : AEnv) (h : AHeap), t.depth ≤ fuel → closed ops listed → otOk ops cls t listed true = true → AOrdT P ops cls K t E h → AAny P ops cls K fuel listed E h := by
  intro fuel
  induction fuel with
  | zero =>
    intro t listed E h hd hc hB H
    cases t with
    | done => exact ⟨by simpa [otOk] using hB, H⟩
    | step k t => simp [OT.depth] at hd
    | alt k t r => simp only [OT.depth] at hd; omega
    | stop => simp [otOk] at hB
  | succ fuel ih =>
    intro t listed E h hd hc hB H
    cases t with
    | done =>
      have he : Region.ready .any ops listed = [] := by simpa [otOk] using hB
      exact ⟨fun _ => H, fun i hi => by rw [he] at hi; cases hi⟩
    | stop => simp [otOk] at hB
    | step k t =>
      simp only [otOk, Bool.and_eq_true, List.contains_iff_mem, List.all_eq_true, List.mem_range, Bool.or_eq_true, beq_iff_eq, decide_eq_true_eq] at hB
      obtain ⟨⟨⟨hr, hf⟩, hact⟩, hB'⟩ := hB
      obtain ⟨_, ok, hok, hall⟩ := mem_ready.1 hr
      obtain ⟨x, hy, hK⟩ := yields_of_step hok hact H
      refine AAny_first hok fuel listed E h hc ?_ hr hy (ih t _ _ _ (by simp only [OT.depth] at hd; omega) (hc.set hr) hB' hK)
      intro j hjk hjs hun hnw
      rcases hf j hjs with ((h1 | h1) | h1) | h1
      · exact absurd h1 hjk
      · rw [hun] at h1; cases h1
      · rw [hnw] at h1; cases h1
      · exact h1
    | alt k t r =>
      have hF := otOk_false ⟨k, t, r, rfl⟩ hB
      simp only [otOk, Bool.and_eq_true, List.contains_iff_mem] at hB
      obtain ⟨⟨⟨hcov, hr⟩, ht⟩, hrest⟩ := hB
      refine ⟨fun h0 => (by rw [h0] at hr; cases hr), fun i hi => ?_⟩
      have hih : i ∈ (OT.alt k t r).heads := by
        simp only [Bool.not_true, Bool.false_or, List.all_eq_true, List.contains_iff_mem] at hcov
        exact hcov i hi
      obtain ⟨t', h1, h2, h3, _⟩ := ot_head hF H hih
      exact aStep_mono (fun E' h' h4 => ih t' _ E' h' (by omega) (hc.set hi) h1 h4) h2
end
theorem wp_region_tree {ro : Option Nat} {P : Program} {n id : Nat} {ds : List Deferred} {ops : Array Oper} {cls : Nat → Cls} {t : OT} (hm : P.follows .mixedOrders = true) (hl : t.depth ≤ ops.size)
    (hB : otOk ops cls t (Array.replicate ops.size false) true = true) (hdst : ∀ (i : Nat) o, ops[i]? = some o → ∀ d, o.dst = some d → d < n) {K : AEnv → AHeap → Prop} {E : AEnv} {h : AHeap} {a : Act} {w : World}
    (hs : St n ds E h a w) (H : AOrdT P ops cls K t E h) : (Code.region id ops true).wpIn (wideR ro) 0 P (After n ds K h w) a w := by
  refine wpIn_region_any hm ?_
  have hs' : St n ds E h a w.drew := ⟨hs.defers, hs.size, by rw [stab_drew]; exact hs.env, hs.rel.drew⟩
  refine wpAny_of_AAny hdst _ _ _ _ _ _ hs' (.drew h w) (AAny_of_tree _ t _ E h hl ?_ hB H)
  intro j o ho hlj
  simp only [Array.getD_eq_getD_getElem?, Array.getElem?_replicate] at hlj
  split at hlj <;> simp at hlj
end Go.Av
