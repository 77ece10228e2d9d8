/-
  AdyaDeps answers true for every history
-/
import Derived.Test.YthfolomknkobkaaP4
import Derived.Laws.Sem
set_option linter.unusedVariables false
namespace Go.Av
section
variable {P : Program} {c : Cls} {E : AEnv} {h : AHeap} {K : AV → AHeap → Prop}
theorem ROpS.of_pure {r : ROp} {x : AV} (H : ∀ o, resOp P o = some r → ∀ h', AOp P o E h' (fun x' h'' => x' = x ∧ h'' = h')) (hk : K x h) : ROpS P c r E h K := by
  intro o ho
  cases c with
  | pure => exact ⟨x, H o ho, hk⟩
  | read => exact ⟨x, H o ho h, hk⟩
  | act => exact (H o ho h).mono fun x' h' ⟨e1, e2⟩ => by subst e1; subst e2; exact hk
theorem ROpS.of_read {r : ROp} {x : AV} (hc : c ≠ .pure) (H : ∀ o, resOp P o = some r → AOp P o E h (fun x' h'' => x' = x ∧ h'' = h)) (hk : K x h) : ROpS P c r E h K := by
  intro o ho
  cases c with
  | pure => exact absurd rfl hc
  | read => exact ⟨x, H o ho, hk⟩
  | act => exact (H o ho).mono fun x' h' ⟨e1, e2⟩ => by subst e1; subst e2; exact hk
theorem semAt_run {ro : Option Nat} {ρ : Operand → Value} {o : Oper} {w w' : World} {x : Next} (h : (execOp ρ o).run P w = .ok x w') (hx : ∀ d, x ≠ .defer d) : (o.semAt ro ρ).run P w = .ok x w' := by
  rw [Oper.semAt_eq]
  · exact h
  · intro c hc
    simp only [execOp, hc, Sem.run_bind] at h
    cases hr : (resolve ρ c o.type).run P w with
    | ok d w1 => rw [hr] at h; simp [Result.andThen] at h; exact hx d h.1.symm
    | halt s w1 => rw [hr] at h; simp [Result.andThen] at h
theorem AOp.act {o : Oper} (H : ∀ (ρ : Operand → Value) w, (∀ y ∈ o.op.operands, ∀ av, aev E y = some av → VRel (stab h w) av (ρ y)) → Rel h w →
    ∃ u w' x h', (execOp ρ o).run P w = .ok (.value u) w' ∧ K x h' ∧ VRel (stab h' w') x u ∧ Rel h' w' ∧ Evol h w h' w') : AOp P o E h K := by
  intro ro a w hops hr
  obtain ⟨u, w', x, h', h1, h2, h3, h4, h5⟩ := H a.eval w hops hr
  refine ⟨fun _ _ => trivial, ?_⟩
  rw [show (wideR ro).round = ro from rfl, semAt_run h1 (by simp)]
  exact ⟨u, x, h', rfl, h2, h3, h4, h5⟩
theorem AOp.value' {o : Oper} {x : AV} (H : ∀ (ρ : Operand → Value) w, (∀ y ∈ o.op.operands, ∀ av, aev E y = some av → VRel (stab h w) av (ρ y)) → Rel h w →
    ∃ u w', (execOp ρ o).run P w = .ok (.value u) w' ∧ VRel (stab h w') x u ∧ Rel h w' ∧ Evol h w h w') : AOp P o E h (fun x' h' => x' = x ∧ h' = h) :=
  AOp.act fun ρ w hops hr => let ⟨u, w', h1, h2, h3, h4⟩ := H ρ w hops hr; ⟨u, w', x, h, h1, ⟨rfl, rfl⟩, h2, h3, h4⟩
theorem AOp.value {o : Oper} {x : AV} (H : ∀ (ρ : Operand → Value) w, (∀ y ∈ o.op.operands, ∀ av, aev E y = some av → VRel (stab h w) av (ρ y)) → Rel h w →
    ∃ u, (execOp ρ o).run P w = .ok (.value u) w ∧ VRel (stab h w) x u) : AOp P o E h (fun x' h' => x' = x ∧ h' = h) :=
  AOp.value' fun ρ w hops hr => let ⟨u, h1, h2⟩ := H ρ w hops hr; ⟨u, w, h1, h2, hr, .refl h w⟩
theorem AOp.skip {o : Oper} (H : ∀ (ρ : Operand → Value) w, (∀ y ∈ o.op.operands, ∀ av, aev E y = some av → VRel (stab h w) av (ρ y)) → Rel h w →
    ∃ w' h', (execOp ρ o).run P w = .ok .skip w' ∧ K (.v undef) h' ∧ Rel h' w' ∧ Evol h w h' w') : AOp P o E h K := by
  intro ro a w hops hr
  obtain ⟨w', h', h1, h2, h4, h5⟩ := H a.eval w hops hr
  refine ⟨fun _ _ => trivial, ?_⟩
  rw [show (wideR ro).round = ro from rfl, semAt_run h1 (by simp)]
  exact ⟨undef, .v undef, h', rfl, h2, .v _, h4, h5⟩
inductive Res (P : Program) : Op → ROp → Prop
  | move (x : Operand) : Res P (.move x) (.mv x)
  | assign (x : Operand) : Res P (.assign x) (.mv x)
  | convSS (s d : TypeId) (x : Operand) : P.underlying s = some .string → P.underlying d = some .string → Res P (.convert s d x) (.convStr x)
  | pick (c a b : Operand) : Res P (.pick c a b) (.pick c a b)
  | eql (t u : TypeId) (x y : Operand) (k : EqK) : eqK P 10 t = some k → Res P (.binOp .eql t x y u) (.eq false k x y)
  | neq (t u : TypeId) (x y : Operand) (k : EqK) : eqK P 10 t = some k → Res P (.binOp .neq t x y u) (.eq true k x y)
  | bin (op : BinOp) (t u : TypeId) (x y : Operand) : op ≠ .eql → op ≠ .neq → Res P (.binOp op t x y u) (.bin op x y)
  | un (op : UnOp) (t : TypeId) (x : Operand) : Res P (.unOp op t x) (.un op x)
  | convII (s d : TypeId) (j k : IntKind) (x : Operand) : P.underlying s = some (.int j) → P.underlying d = some (.int k) → Res P (.convert s d x) (.convInt k x)
  | convSB (s d e : TypeId) (x : Operand) : P.underlying s = some .string → P.underlying d = some (.slice e) → P.underlying e = some (.int .u8) → Res P (.convert s d x) (.toBytes x)
  | convBS (s d e : TypeId) (x : Operand) : P.underlying s = some (.slice e) → P.underlying d = some .string → P.underlying e = some (.int .u8) → Res P (.convert s d x) (.toStr x)
  | convLL (s e : TypeId) (x : Operand) : P.underlying s = some (.slice e) → P.underlying e = some (.int .u8) → Res P (.convert s s x) (.convSl x)
  | alloc (t : TypeId) (z : Value) : zeroOf P t = some z → Res P (.alloc t) (.alloc z.cells.toList)
  | box (t : TypeId) (x : Operand) : Res P (.box t x) (.box x)
  | build (t : TypeId) (ps : Array (Nat × Operand)) (z : Value) (qs : List (Nat × Nat × Operand)) : zeroOf P t = some z → resParts P t ps.toList = some qs → Res P (.build t ps) (.build z.cells.toList qs)
  | buildSl (t e : TypeId) (len s : Nat) (ps : Array (Nat × Operand)) (z : Value) : P.underlying t = some (.slice e) → szOf P e = some s → zeroOf P e = some z → z.cells.size = s → len * s ≤ 16777216 → Res P (.buildSlice t len ps) (.buildSl s z.cells.toList len ps.toList)
  | load (t : TypeId) (x : Operand) (a : Bool) (s : Nat) : aggOf P t = some a → szOf P t = some s → Res P (.load t x) (.load a s x)
  | store (t : TypeId) (x y : Operand) (s : Nat) : szOf P t = some s → Res P (.store t x y) (.store s x y)
  | nilCheck (x : Operand) : Res P (.nilCheck x) (.nilCheck x)
  | fieldAddr (t : TypeId) (x : Operand) (i : Nat) (fs : Array Field) (f : Field) (s : Nat) : P.underlying t = some (.struct fs) → fs[i]? = some f → szOf P f.type = some s → s ≠ 0 → Res P (.fieldAddr t x i) (.fieldAddr f.offset x)
  | field (t : TypeId) (x : Operand) (i : Nat) (fs : Array Field) (f : Field) (s : Nat) (a : Bool) : P.underlying t = some (.struct fs) → fs[i]? = some f → szOf P f.type = some s → aggOf P f.type = some a → Res P (.field t x i) (.field a f.offset s x)
  | indexAddr (t e : TypeId) (x i : Operand) (s : Nat) : P.underlying t = some (.slice e) → szOf P e = some s → Res P (.indexAddr t x i) (.indexAddr s x i)
  | indexArr (t e : TypeId) (x i : Operand) (n s : Nat) : P.underlying t = some (.array n e) → szOf P e = some s → Res P (.indexAddr t x i) (.indexArr n s x i)
  | indexAg (t e : TypeId) (x i : Operand) (n s : Nat) (a : Bool) : P.underlying t = some (.array n e) → szOf P e = some s → aggOf P e = some a → Res P (.index t x i) (.indexAg a n s x i)
  | makeSl (t e : TypeId) (x y : Operand) (i : TypeInfo) (z : Value) : P.underlying t = some (.slice e) → P.info? e = some i → i.zero = some z → z.cells.size = i.size → Res P (.makeSlice t x y) (.makeSl i.size i.bytes z.cells.toList x y)
  | cmpStr (c : Call) (f : FuncId) (x y : Operand) : c.callee = .value (.func f) → plainCallee P f = false → cmpCallee P f = true → c.args = #[x, y] → Res P (.call c) (.cmpStr x y)
  | cmpSl (c : Call) (f : FuncId) (x y : Operand) : c.callee = .value (.func f) → plainCallee P f = false → cmpSlCallee P f = true → c.args = #[x, y] → Res P (.call c) (.cmpSl x y)
  | indexStr (t : TypeId) (x i : Operand) : P.underlying t = some .string → Res P (.index t x i) (.indexStr x i)
  | sliceSl (t e : TypeId) (x : Operand) (lo hi mx : Option Operand) (s : Nat) : P.underlying t = some (.slice e) → szOf P e = some s → Res P (.slice t x lo hi mx) (.sliceSl s x lo hi mx)
  | sliceStr (t : TypeId) (x : Operand) (lo hi : Option Operand) : P.underlying t = some .string → Res P (.slice t x lo hi none) (.sliceStr x lo hi)
  | extract (x : Operand) (i : Nat) : Res P (.extract x i) (.extract x i)
  | makeFunc (fn : Fn) (a b : Array Operand) : Res P (.makeFunc fn a b) (.makeFunc fn a.toList b.toList)
  | makeMap (t : TypeId) : Res P (.makeMap t none) .makeMap
  | lookup (t k e : TypeId) (x y : Operand) (ok : Bool) (q : EqK) (z : Value) : P.underlying t = some (.map k e) → eqK P 10 k = some q → zeroOf P e = some z → Res P (.lookup t x y ok) (.lookup k z x y ok)
  | mapUpdate (t k e : TypeId) (m x y : Operand) (q : EqK) : P.underlying t = some (.map k e) → eqK P 10 k = some q → Res P (.mapUpdate t m x y) (.mapUpdate k m x y)
  | insert (t k e : TypeId) (m x y : Operand) (q : EqK) : P.underlying t = some (.map k e) → eqK P 10 k = some q → Res P (.insert t m x y) (.mapUpdate k m x y)
  | call (c : Call) (f : FuncId) : c.callee = .value (.func f) → plainCallee P f = true → Res P (.call c) (.call f c.args.toList)
  | callv (c : Call) (x : Operand) : c.callee = .value x → Res P (.call c) (.callv x c.args.toList)
  | len (c : Call) (x : Operand) (t : TypeId) : c.callee = .builtin .len → c.args = #[x] → c.argTypes = #[t] → (∃ e, P.underlying t = some (.slice e)) → Res P (.call c) (.len x)
  | lenStr (c : Call) (x : Operand) (t : TypeId) : c.callee = .builtin .len → c.args = #[x] → c.argTypes = #[t] → P.underlying t = some .string → Res P (.call c) (.lenStr x)
  | lenMap (c : Call) (x : Operand) (t k e : TypeId) : c.callee = .builtin .len → c.args = #[x] → c.argTypes = #[t] → P.underlying t = some (.map k e) → Res P (.call c) (.lenMap x)
  | append (c : Call) (x y : Operand) (t u e : TypeId) (i : TypeInfo) (z : Value) : c.callee = .builtin .append → c.args = #[x, y] → c.argTypes = #[t, u] → P.underlying t = some (.slice e) →
      (P.underlying u = some .string ∨ ∃ e', P.underlying u = some (.slice e')) → P.info? e = some i → i.zero = some z → z.cells.size = i.size → i.size ≠ 0 → Res P (.call c) (.append i.size i.bytes z.cells.toList x y)
  | minmax (c : Call) (m : Bool) : c.callee = .builtin (if m then .max else .min) → Res P (.call c) (.minmax m c.args.toList)
  | clearSl (c : Call) (x : Operand) (t e : TypeId) (s : Nat) (z : Value) : c.callee = .builtin .clear → c.args = #[x] → c.argTypes = #[t] → P.underlying t = some (.slice e) → szOf P e = some s → zeroOf P e = some z → z.cells.size = s → Res P (.call c) (.clearSl s z.cells.toList x)
  | copySl (c : Call) (x y : Operand) (t u e : TypeId) (s : Nat) : c.callee = .builtin .copy → c.args = #[x, y] → c.argTypes = #[t, u] → P.underlying t = some (.slice e) → szOf P e = some s → Res P (.call c) (.copySl s x y)
  | mapDelete (c : Call) (m x : Operand) (t u k e : TypeId) (q : EqK) : c.callee = .builtin .delete → c.args = #[m, x] → c.argTypes = #[t, u] → P.underlying t = some (.map k e) → eqK P 10 k = some q → Res P (.call c) (.mapDelete k m x)
  | rangeMap (t k e : TypeId) (x : Operand) : P.underlying t = some (.map k e) → Res P (.range t x) (.rangeMap x)
  | nextMap (x : Operand) : Res P (.next x false) (.nextMap x)
  | entryMap (x : Operand) : Res P (.entry x) (.entryMap x)
theorem arr1 {α : Type} {a : Array α} {x : α} (h : a.toList = [x]) : a = #[x] := by cases a; simp_all
theorem arr2 {α : Type} {a : Array α} {x y : α} (h : a.toList = [x, y]) : a = #[x, y] := by cases a; simp_all
theorem resBuiltin_sound {c : Call} {b : Builtin} {r : ROp} (hc : c.callee = .builtin b) (h : resBuiltin P b c.args.toList c.argTypes.toList = some r) : Res P (.call c) r := by
  unfold resBuiltin at h
  split at h
  · rename_i x t h1 h2
    split at h
    · simp at h; subst h; exact .lenStr c x t hc (arr1 h1) (arr1 h2) (by assumption)
    · simp at h; subst h; exact .len c x t hc (arr1 h1) (arr1 h2) ⟨_, by assumption⟩
    · simp at h; subst h; exact .lenMap c x t _ _ hc (arr1 h1) (arr1 h2) (by assumption)
    · cases h
  · rename_i x y t u h1 h2
    split at h
    · rename_i e e' g1 g2
      split at h
      · rename_i i hi
        split at h
        · rename_i z hz
          split at h
          · rename_i hzz
            simp at hzz
            simp at h
            subst h
            exact .append c x y t u e i z hc (arr2 h1) (arr2 h2) g1 (.inr ⟨_, g2⟩) hi hz hzz.1 hzz.2
          · cases h
        · cases h
      · cases h
    · rename_i e g1 g2
      split at h
      · rename_i i hi
        split at h
        · rename_i z hz
          split at h
          · rename_i hzz
            simp at hzz
            simp at h
            subst h
            exact .append c x y t u e i z hc (arr2 h1) (arr2 h2) g1 (.inl g2) hi hz hzz.1 hzz.2
          · cases h
        · cases h
      · cases h
    · cases h
  · simp at h; subst h; exact .minmax c false hc
  · simp at h; subst h; exact .minmax c true hc
  · rename_i x t h1 h2
    split at h
    · rename_i e he
      simp only [Option.bind_eq_bind, Option.bind_eq_some_iff] at h
      obtain ⟨s, hs, z, hz, h⟩ := h
      split at h
      · simp at h; subst h; exact .clearSl c x t e s z hc (arr1 h1) (arr1 h2) he hs hz (by assumption)
      · cases h
    · cases h
  · rename_i x y t u h1 h2
    split at h
    · rename_i e he
      simp only [Option.bind_eq_bind, Option.bind_eq_some_iff] at h
      obtain ⟨s, hs, h⟩ := h
      simp at h; subst h; exact .copySl c x y t u e s hc (arr2 h1) (arr2 h2) he hs
    · cases h
  · rename_i m x t u h1 h2
    split at h
    · rename_i k e he
      simp only [Option.bind_eq_bind, Option.bind_eq_some_iff] at h
      obtain ⟨q, hq, h⟩ := h
      simp at h; subst h; exact .mapDelete c m x t u k e q hc (arr2 h1) (arr2 h2) he hq
    · cases h
  · cases h
theorem resOp_sound {o : Oper} {r : ROp} (ho : resOp P o = some r) : Res P o.op r := by
  unfold resOp at ho
  split at ho
  · rename_i x hx; simp at ho; subst ho; rw [hx]; exact .move x
  · rename_i x hx; simp at ho; subst ho; rw [hx]; exact .assign x
  · rename_i hx; simp at ho; subst ho; rw [hx]; exact .pick _ _ _
  · rename_i hx; simp at ho; obtain ⟨k, hk, rfl⟩ := ho; rw [hx]; exact .eql _ _ _ _ k hk
  · rename_i hx; simp at ho; obtain ⟨k, hk, rfl⟩ := ho; rw [hx]; exact .neq _ _ _ _ k hk
  · rename_i op t x y u h1 h2 hx
    simp at ho; subst ho; rw [hx]
    exact .bin op t _ x y (fun e => h1 e) (fun e => h2 e)
  · rename_i hx; simp at ho; subst ho; rw [hx]; exact .un _ _ _
  · rename_i s d x hx
    rw [hx]
    split at ho
    · simp at ho; subst ho; exact .convII s d _ _ x (by assumption) (by assumption)
    · split at ho
      · simp at ho; subst ho; exact .convSB s d _ x (by assumption) (by assumption) (by assumption)
      · cases ho
    · split at ho
      · simp at ho; subst ho; exact .convBS s d _ x (by assumption) (by assumption) (by assumption)
      · cases ho
    · simp at ho; subst ho; exact .convSS s d x (by assumption) (by assumption)
    · rename_i e e' g1 g2
      split at ho
      · rename_i hsd
        subst hsd
        split at ho
        · simp at ho; subst ho; exact .convLL s e x g1 (by assumption)
        · cases ho
      · cases ho
    · cases ho
  · rename_i t hx
    rw [hx]
    simp only [zeroCells, Option.map_map, Option.map_eq_some_iff] at ho
    obtain ⟨z, hz, rfl⟩ := ho
    exact .alloc t z hz
  · rename_i hx; simp at ho; subst ho; rw [hx]; exact .box _ _
  · rename_i t ps hx
    rw [hx]
    simp only [Option.bind_eq_bind, Option.bind_eq_some_iff, zeroCells, Option.map_eq_some_iff] at ho
    obtain ⟨_, ⟨z, hz, rfl⟩, qs, hq, ho⟩ := ho
    simp at ho; subst ho; exact .build t ps z qs hz hq
  · rename_i t len ps hx
    rw [hx]
    split at ho
    · rename_i e he
      simp only [Option.bind_eq_bind, Option.bind_eq_some_iff, zeroCells, Option.map_eq_some_iff] at ho
      obtain ⟨s, hs, _, ⟨z, hz, rfl⟩, ho⟩ := ho
      split at ho
      · rename_i hc
        simp at hc
        simp at ho; subst ho; exact .buildSl t e len s ps z he hs hz hc.1 hc.2
      · cases ho
    · cases ho
  · rename_i t x hx
    rw [hx]
    simp only [Option.bind_eq_bind, Option.bind_eq_some_iff] at ho
    obtain ⟨a, ha, s, hs, ho⟩ := ho
    simp at ho; subst ho; exact .load t x a s ha hs
  · rename_i t x y hx
    rw [hx]
    simp only [Option.bind_eq_bind, Option.bind_eq_some_iff] at ho
    obtain ⟨s, hs, ho⟩ := ho
    simp at ho; subst ho; exact .store t x y s hs
  · rename_i hx; simp at ho; subst ho; rw [hx]; exact .nilCheck _
  · rename_i t x i hx
    rw [hx]
    split at ho
    · rename_i fs hfs
      simp only [Option.bind_eq_bind, Option.bind_eq_some_iff] at ho
      obtain ⟨f, hf, s, hs, ho⟩ := ho
      split at ho
      · cases ho
      · simp at ho; subst ho; exact .fieldAddr t x i fs f s hfs hf hs (by assumption)
    · cases ho
  · rename_i t x i hx
    rw [hx]
    split at ho
    · rename_i fs hfs
      simp only [Option.bind_eq_bind, Option.bind_eq_some_iff] at ho
      obtain ⟨f, hf, s, hs, a, ha, ho⟩ := ho
      simp at ho; subst ho; exact .field t x i fs f s a hfs hf hs ha
    · cases ho
  · rename_i t x i hx
    rw [hx]
    split at ho
    · rename_i e he
      simp only [Option.bind_eq_bind, Option.bind_eq_some_iff] at ho
      obtain ⟨s, hs, ho⟩ := ho
      simp at ho; subst ho; exact .indexAddr t e x i s he hs
    · rename_i n e he
      simp only [Option.bind_eq_bind, Option.bind_eq_some_iff] at ho
      obtain ⟨s, hs, ho⟩ := ho
      simp at ho; subst ho; exact .indexArr t e x i n s he hs
    · cases ho
  · rename_i t x i hx
    rw [hx]
    split at ho
    · simp at ho; subst ho; exact .indexStr t x i (by assumption)
    · rename_i n e he
      simp only [Option.bind_eq_bind, Option.bind_eq_some_iff] at ho
      obtain ⟨s, hs, a, ha, ho⟩ := ho
      simp at ho; subst ho; exact .indexAg t e x i n s a he hs ha
    · cases ho
  · rename_i t x y hx
    rw [hx]
    split at ho
    · rename_i e he
      split at ho
      · rename_i i hi
        split at ho
        · rename_i z hz
          split at ho
          · simp at ho; subst ho; exact .makeSl t e x y i z he hi hz (by assumption)
          · cases ho
        · cases ho
      · cases ho
    · cases ho
  · rename_i t x lo hi mx hx
    rw [hx]
    split at ho
    · rename_i e he
      simp only [Option.bind_eq_bind, Option.bind_eq_some_iff] at ho
      obtain ⟨s, hs, ho⟩ := ho
      simp at ho; subst ho; exact .sliceSl t e x lo hi _ s he hs
    · simp at ho; subst ho; exact .sliceStr t x lo hi (by assumption)
    · cases ho
  · rename_i hx; simp at ho; subst ho; rw [hx]; exact .extract _ _
  · rename_i c hx
    rw [hx]
    split at ho
    · exact resBuiltin_sound (by assumption) ho
    · split at ho
      · simp at ho; subst ho; exact .call c _ (by assumption) (by assumption)
      · split at ho
        · split at ho
          · rename_i x y hxy
            simp at ho; subst ho; exact .cmpStr c _ x y (by assumption) (by simp_all) (by assumption) (arr2 hxy)
          · cases ho
        · split at ho
          · split at ho
            · rename_i x y hxy
              simp at ho; subst ho; exact .cmpSl c _ x y (by assumption) (by simp_all) (by assumption) (arr2 hxy)
            · cases ho
          · cases ho
    · simp at ho; subst ho; exact .callv c _ (by assumption)
    · cases ho
  · rename_i hx; simp at ho; subst ho; rw [hx]; exact .makeFunc _ _ _
  · rename_i hx; simp at ho; subst ho; rw [hx]; exact .makeMap _
  · rename_i t x y ok hx
    rw [hx]
    split at ho
    · rename_i k e he
      simp only [Option.bind_eq_bind, Option.bind_eq_some_iff] at ho
      obtain ⟨q, hq, z, hz, ho⟩ := ho
      simp at ho; subst ho; exact .lookup t k e x y ok q z he hq hz
    · cases ho
  · rename_i t m x y hx
    rw [hx]
    split at ho
    · rename_i k e he
      simp only [Option.bind_eq_bind, Option.bind_eq_some_iff] at ho
      obtain ⟨q, hq, ho⟩ := ho
      simp at ho; subst ho; exact .mapUpdate t k e m x y q he hq
    · cases ho
  · rename_i t m x y hx
    rw [hx]
    split at ho
    · rename_i k e he
      simp only [Option.bind_eq_bind, Option.bind_eq_some_iff] at ho
      obtain ⟨q, hq, ho⟩ := ho
      simp at ho; subst ho; exact .insert t k e m x y q he hq
    · cases ho
  · rename_i t x hx
    rw [hx]
    split at ho
    · rename_i k e he; simp at ho; subst ho; exact .rangeMap t k e x he
    · cases ho
  · rename_i x hx; simp at ho; subst ho; rw [hx]; exact .nextMap x
  · rename_i x hx; simp at ho; subst ho; rw [hx]; exact .entryMap x
  · cases ho
end
end Go.Av
