/-
  AdyaDeps answers true for every history
-/
import Derived.Test.YthfolomknkobkaaP5
import Derived.ChangeKeysEq
import Derived.Laws.StructEq
set_option linter.unusedVariables false
namespace Go.Av
section
variable {P : Program} {c : Cls} {E : AEnv} {h : AHeap} {K : AV → AHeap → Prop}
theorem VRel.inv_v {st : Store} {x : Value} {u : Value} (hv : VRel st (.v x) u) : u = x := by cases hv; rfl
theorem R.mv {x : Operand} {av : AV} (hx : aev E x = some av) (hk : K av h) : ROpS P c (.mv x) E h K :=
  ROpS.of_pure (fun o ho h' => AOp.value fun ρ w hops hr => by
    have hres := resOp_sound ho
    generalize hop : o.op = op at hres hops
    cases hres with
    | move => exact ⟨ρ x, by simp only [execOp, hop]; rfl, hops x (by simp [Op.operands]) av hx⟩
    | assign => exact ⟨ρ x, by simp only [execOp, hop]; rfl, hops x (by simp [Op.operands]) av hx⟩) hk
theorem R.convStr {x : Operand} {s : ByteArray} (hx : aev E x = some (.v (.string s))) (hk : K (.v (.string s)) h) : ROpS P c (.convStr x) E h K :=
  ROpS.of_pure (fun o ho h' => AOp.value fun ρ w hops hr => by
    have hres := resOp_sound ho
    generalize hop : o.op = op at hres hops
    cases hres with
    | convSS s' d _ h1 h2 =>
      have := (hops x (by simp [Op.operands]) _ hx).inv_v
      exact ⟨_, by simp [execOp, hop, convert, run_underlying h1, run_underlying h2, this], .v _⟩) hk
theorem R.pickT {x y z : Operand} {av : AV} (hx : aev E x = some (.v (.bool true))) (hy : aev E y = some av) (hk : K av h) : ROpS P c (.pick x y z) E h K :=
  ROpS.of_pure (fun o ho h' => AOp.value fun ρ w hops hr => by
    have hres := resOp_sound ho
    generalize hop : o.op = op at hres hops
    cases hres with
    | pick =>
      have := (hops x (by simp [Op.operands]) _ hx).inv_v
      exact ⟨ρ y, by simp [execOp, hop, this, asBool], hops y (by simp [Op.operands]) av hy⟩) hk
theorem R.pickF {x y z : Operand} {av : AV} (hx : aev E x = some (.v (.bool false))) (hz : aev E z = some av) (hk : K av h) : ROpS P c (.pick x y z) E h K :=
  ROpS.of_pure (fun o ho h' => AOp.value fun ρ w hops hr => by
    have hres := resOp_sound ho
    generalize hop : o.op = op at hres hops
    cases hres with
    | pick =>
      have := (hops x (by simp [Op.operands]) _ hx).inv_v
      exact ⟨ρ z, by simp [execOp, hop, this, asBool], hops z (by simp [Op.operands]) av hz⟩) hk
def binInt (op : BinOp) (k : IntKind) (a b : Int) : Option Value :=
  match op with
  | .add => some (.int k (k.wrap (a + b)))
  | .sub => some (.int k (k.wrap (a - b)))
  | .mul => some (.int k (k.wrap (a * b)))
  | .quo => if b = 0 then none else some (.int k (k.wrap (a.tdiv b)))
  | .rem => if b = 0 then none else some (.int k (a.tmod b))
  | .and => some (.int k (k.wrap (BitVec.ofInt k.bits a &&& BitVec.ofInt k.bits b).toNat))
  | .or => some (.int k (k.wrap (BitVec.ofInt k.bits a ||| BitVec.ofInt k.bits b).toNat))
  | .xor => some (.int k (k.wrap (BitVec.ofInt k.bits a ^^^ BitVec.ofInt k.bits b).toNat))
  | .andNot => some (.int k (k.wrap (BitVec.ofInt k.bits a &&& ~~~(BitVec.ofInt k.bits b)).toNat))
  | .lss => some (.bool (decide (a < b)))
  | .leq => some (.bool (decide (a ≤ b)))
  | .gtr => some (.bool (decide (b < a)))
  | .geq => some (.bool (decide (b ≤ a)))
  | _ => none
theorem run_binInt {op : BinOp} {k : IntKind} {a b : Int} {v : Value} (hv : binInt op k a b = some v) (t : TypeId) (w : World) : (binOp op t (.int k a) (.int k b)).run P w = .ok v w := by
  cases op <;> simp only [binInt] at hv <;> (try (cases hv; done)) <;> (try (split at hv)) <;> (try (cases hv; done)) <;> simp only [Option.some.injEq] at hv <;> subst hv <;>
    simp_all [binOp, Op.intArith, Op.intDiv, Op.intBits, Op.intCmp]
theorem run_eqGuard_atom {op : BinOp} (t : TypeId) (x y : Operand) (a b : Value) (w : World) (h1 : ∀ cs, a ≠ .agg cs) (h2 : a ≠ .nilIface) : (eqGuard op t x y a b).run P w = .ok () w := by
  unfold eqGuard
  cases op <;> simp <;> (cases a <;> simp_all)
theorem R.bin {op : BinOp} {x y : Operand} {k : IntKind} {a b : Int} {v : Value} (hx : aev E x = some (.v (.int k a))) (hy : aev E y = some (.v (.int k b))) (hv : binInt op k a b = some v) (hk : K (.v v) h) : ROpS P c (.bin op x y) E h K :=
  ROpS.of_pure (fun o ho h' => AOp.value fun ρ w hops hr => by
    have hres := resOp_sound ho
    generalize hop : o.op = op' at hres hops
    cases hres with
    | bin _ t u _ _ h1 h2 =>
      have e1 := (hops x (by simp [Op.operands]) _ hx).inv_v
      have e2 := (hops y (by simp [Op.operands]) _ hy).inv_v
      refine ⟨v, ?_, .v v⟩
      simp only [execOp, hop, Sem.run_bind, e1, e2, run_eqGuard_atom t x y (.int k a) (.int k b) w (fun _ => by simp) (by simp), Result.andThen_ok, run_binInt hv]
      rfl) hk
theorem R.shr {x y : Operand} {k j : IntKind} {a b : Int} (hx : aev E x = some (.v (.int k a))) (hy : aev E y = some (.v (.int j b))) (hb : 0 ≤ b) (hk : K (.v (.int k (a.fdiv (2 ^ (min b.toNat k.bits))))) h) : ROpS P c (.bin .shr x y) E h K :=
  ROpS.of_pure (fun o ho h' => AOp.value fun ρ w hops hr => by
    have hres := resOp_sound ho
    generalize hop : o.op = op' at hres hops
    cases hres with
    | bin _ t u _ _ h1 h2 =>
      have e1 := (hops x (by simp [Op.operands]) _ hx).inv_v
      have e2 := (hops y (by simp [Op.operands]) _ hy).inv_v
      refine ⟨_, ?_, .v _⟩
      have : ¬ b < 0 := by omega
      simp only [execOp, hop, Sem.run_bind, e1, e2, run_eqGuard_atom t x y (.int k a) (.int j b) w (fun _ => by simp) (by simp), Result.andThen_ok, binOp, Op.shift, if_neg this]
      rfl) hk
def binStr (op : BinOp) (a b : ByteArray) : Option Value :=
  match op with
  | .add => if ((a.size + b.size : Nat) : Int) > IntKind.i64.max then none else some (.string (a ++ b))
  | .lss => some (.bool (Op.bytesLess a.toList b.toList))
  | .leq => some (.bool (Op.bytesLess a.toList b.toList || a.toList == b.toList))
  | .gtr => some (.bool !(Op.bytesLess a.toList b.toList || a.toList == b.toList))
  | .geq => some (.bool !(Op.bytesLess a.toList b.toList))
  | _ => none
theorem run_binStr {op : BinOp} {a b : ByteArray} {v : Value} (hv : binStr op a b = some v) (t : TypeId) (w : World) : (binOp op t (.string a) (.string b)).run P w = .ok v w := by
  cases op <;> simp only [binStr] at hv <;> (try (cases hv; done)) <;> (try (split at hv)) <;> (try (cases hv; done)) <;> simp only [Option.some.injEq] at hv <;> subst hv <;>
    simp_all [binOp, Op.stringOp]
theorem R.binStr {op : BinOp} {x y : Operand} {a b : ByteArray} {v : Value} (hx : aev E x = some (.v (.string a))) (hy : aev E y = some (.v (.string b))) (hv : binStr op a b = some v) (hk : K (.v v) h) : ROpS P c (.bin op x y) E h K :=
  ROpS.of_pure (fun o ho h' => AOp.value fun ρ w hops hr => by
    have hres := resOp_sound ho
    generalize hop : o.op = op' at hres hops
    cases hres with
    | bin _ t u _ _ h1 h2 =>
      have e1 := (hops x (by simp [Op.operands]) _ hx).inv_v
      have e2 := (hops y (by simp [Op.operands]) _ hy).inv_v
      refine ⟨v, ?_, .v v⟩
      simp only [execOp, hop, Sem.run_bind, e1, e2, run_eqGuard_atom t x y (.string a) (.string b) w (fun _ => by simp) (by simp), Result.andThen_ok, run_binStr hv]
      rfl) hk
theorem R.not {x : Operand} {b : Bool} (hx : aev E x = some (.v (.bool b))) (hk : K (.v (.bool (!b))) h) : ROpS P c (.un .not x) E h K :=
  ROpS.of_pure (fun o ho h' => AOp.value fun ρ w hops hr => by
    have hres := resOp_sound ho
    generalize hop : o.op = op' at hres hops
    cases hres with
    | un _ t _ =>
      have e1 := (hops x (by simp [Op.operands]) _ hx).inv_v
      exact ⟨.bool (!b), by simp [execOp, hop, e1, Op.unary], .v _⟩) hk
theorem R.neg {x : Operand} {k : IntKind} {a : Int} (hx : aev E x = some (.v (.int k a))) (hk : K (.v (.int k (k.wrap (0 - a)))) h) : ROpS P c (.un .neg x) E h K :=
  ROpS.of_pure (fun o ho h' => AOp.value fun ρ w hops hr => by
    have hres := resOp_sound ho
    generalize hop : o.op = op' at hres hops
    cases hres with
    | un _ t _ =>
      have e1 := (hops x (by simp [Op.operands]) _ hx).inv_v
      exact ⟨.int k (k.wrap (0 - a)), by simp [execOp, hop, e1, Op.unary, Op.intArith], .v _⟩) hk
theorem R.convInt {k j : IntKind} {x : Operand} {a : Int} (hx : aev E x = some (.v (.int j a))) (hk : K (.v (.int k (k.wrap a))) h) : ROpS P c (.convInt k x) E h K :=
  ROpS.of_pure (fun o ho h' => AOp.value fun ρ w hops hr => by
    have hres := resOp_sound ho
    generalize hop : o.op = op' at hres hops
    cases hres with
    | convII s d j' _ _ h1 h2 =>
      have e1 := (hops x (by simp [Op.operands]) _ hx).inv_v
      exact ⟨.int k (k.wrap a), by simp [execOp, hop, e1, convert, run_underlying h1, run_underlying h2, Conv.intToInt], .v _⟩) hk
theorem run_eq_of {neg : Bool} {o : Oper} {k : EqK} {x y : Operand} (hres : Res P o.op (.eq neg k x y)) (ρ : Operand → Value) (w : World) {r : Bool} (hg : ∀ op t, (eqGuard op t x y (ρ x) (ρ y)).run P w = .ok () w)
    (he : ∀ t, eqK P 10 t = some k → (binOp .eql t (ρ x) (ρ y)).run P w = .ok (.bool r) w ∧ (binOp .neq t (ρ x) (ρ y)).run P w = .ok (.bool (!r)) w) :
    (execOp ρ o).run P w = .ok (.value (.bool (if neg then !r else r))) w := by
  generalize hop : o.op = op' at hres
  cases hres with
  | eql t u _ _ _ hk => simp only [execOp, hop, Sem.run_bind, hg, Result.andThen_ok, (he t hk).1]; rfl
  | neq t u _ _ _ hk => simp only [execOp, hop, Sem.run_bind, hg, Result.andThen_ok, (he t hk).2]; rfl
theorem eq_operands {neg : Bool} {o : Oper} {k : EqK} {x y : Operand} (hres : Res P o.op (.eq neg k x y)) : x ∈ o.op.operands ∧ y ∈ o.op.operands := by
  generalize hop : o.op = op' at hres
  cases hres <;> simp [Op.operands]
theorem R.eqInt {neg : Bool} {kk : EqK} {x y : Operand} {k : IntKind} {a b : Int} (hx : aev E x = some (.v (.int k a))) (hy : aev E y = some (.v (.int k b))) (hk : K (.v (.bool (if neg then !(a == b) else a == b))) h) : ROpS P c (.eq neg kk x y) E h K :=
  ROpS.of_pure (fun o ho h' => AOp.value fun ρ w hops hr => by
    have hres := resOp_sound ho
    have e1 := (hops x (eq_operands hres).1 _ hx).inv_v
    have e2 := (hops y (eq_operands hres).2 _ hy).inv_v
    refine ⟨_, run_eq_of hres ρ w (r := a == b) (fun op t => by rw [e1, e2]; exact run_eqGuard_atom _ _ _ _ _ _ (fun _ => by simp) (by simp)) (fun t ht => ?_), .v _⟩
    rw [e1, e2]
    exact ⟨by simp [binOp, Op.intCmp], by simp [binOp, Op.intCmp]; rfl⟩) hk
theorem R.eqStr {neg : Bool} {kk : EqK} {x y : Operand} {a b : ByteArray} (hx : aev E x = some (.v (.string a))) (hy : aev E y = some (.v (.string b))) (hk : K (.v (.bool (if neg then !(a.toList == b.toList) else a.toList == b.toList))) h) : ROpS P c (.eq neg kk x y) E h K :=
  ROpS.of_pure (fun o ho h' => AOp.value fun ρ w hops hr => by
    have hres := resOp_sound ho
    have e1 := (hops x (eq_operands hres).1 _ hx).inv_v
    have e2 := (hops y (eq_operands hres).2 _ hy).inv_v
    refine ⟨_, run_eq_of hres ρ w (r := a.toList == b.toList) (fun op t => by rw [e1, e2]; exact run_eqGuard_atom _ _ _ _ _ _ (fun _ => by simp) (by simp)) (fun t ht => ?_), .v _⟩
    rw [e1, e2]
    exact ⟨by simp [binOp, Op.stringOp], by simp [binOp, Op.stringOp]⟩) hk
theorem eqK_bool {t : TypeId} (h : eqK P 10 t = some .bool) : P.underlying t = some .bool := by
  unfold eqK at h
  split at h <;> simp_all <;> (try (split at h <;> simp_all))
theorem eqK_slice {t : TypeId} (h : eqK P 10 t = some .slice) : ∃ e, P.underlying t = some (.slice e) := by
  unfold eqK at h
  split at h <;> simp_all <;> (try (split at h <;> simp_all))
theorem eqK_map {t : TypeId} (h : eqK P 10 t = some .map) : ∃ k e, P.underlying t = some (.map k e) := by
  unfold eqK at h
  split at h <;> simp_all <;> (try (split at h <;> simp_all))
theorem eqK_ptr {t : TypeId} (h : eqK P 10 t = some .ptr) : ∃ e s, P.underlying t = some (.pointer e) ∧ szOf P e = some s ∧ s ≠ 0 := by
  unfold eqK at h
  split at h <;> simp_all
  · split at h
    · cases h
    · exact ⟨_, ‹_›, fun e => by simp_all⟩
    · cases h
  · split at h <;> simp_all
theorem run_two_of_equal {t : TypeId} {a b : Value} {w : World} {r : Bool} (hd : ∀ d : Nat, (Op.equalIn (d + 1) t a b).run P w = .ok r w)
    (hs : (∃ p q, a = .pointer p ∧ b = .pointer q) ∨ (∃ p l k q m n, a = .slice p l k ∧ b = .slice q m n) ∨ (∃ p q, a = .map p ∧ b = .map q) ∨ (∃ p q, a = .bool p ∧ b = .bool q)) :
    (binOp .eql t a b).run P w = .ok (.bool r) w ∧ (binOp .neq t a b).run P w = .ok (.bool (!r)) w := by
  have he : (Op.equal t a b).run P w = .ok r w := hd 9999
  rcases hs with ⟨p, q, rfl, rfl⟩ | ⟨p, l, k, q, m, n, rfl, rfl⟩ | ⟨p, q, rfl, rfl⟩ | ⟨p, q, rfl, rfl⟩ <;> (constructor <;> simp only [binOp, Sem.run_bind, he, Result.andThen_ok] <;> rfl)
theorem R.eqBool {neg : Bool} {x y : Operand} {a b : Bool} (hx : aev E x = some (.v (.bool a))) (hy : aev E y = some (.v (.bool b))) (hk : K (.v (.bool (if neg then !(a == b) else a == b))) h) : ROpS P c (.eq neg .bool x y) E h K :=
  ROpS.of_pure (fun o ho h' => AOp.value fun ρ w hops hr => by
    have hres := resOp_sound ho
    have e1 := (hops x (eq_operands hres).1 _ hx).inv_v
    have e2 := (hops y (eq_operands hres).2 _ hy).inv_v
    refine ⟨_, run_eq_of hres ρ w (r := a == b) (fun op t => by rw [e1, e2]; exact run_eqGuard_atom _ _ _ _ _ _ (fun _ => by simp) (by simp)) (fun t ht => ?_), .v _⟩
    rw [e1, e2]
    have := eqK_bool ht
    exact run_two_of_equal (fun d => by simp [Op.equalIn, run_underlying this]) (.inr (.inr (.inr ⟨_, _, rfl, rfl⟩)))) hk
theorem R.eqPtrNil {neg : Bool} {x y : Operand} {p : Option Addr} (hx : aev E x = some (.v (.pointer p))) (hy : aev E y = some (.v (.pointer none))) (hk : K (.v (.bool (if neg then !p.isNone else p.isNone))) h) : ROpS P c (.eq neg .ptr x y) E h K :=
  ROpS.of_pure (fun o ho h' => AOp.value fun ρ w hops hr => by
    have hres := resOp_sound ho
    have e1 := (hops x (eq_operands hres).1 _ hx).inv_v
    have e2 := (hops y (eq_operands hres).2 _ hy).inv_v
    refine ⟨_, run_eq_of hres ρ w (r := p.isNone) (fun op t => by rw [e1, e2]; exact run_eqGuard_atom _ _ _ _ _ _ (fun _ => by simp) (by simp)) (fun t ht => ?_), .v _⟩
    rw [e1, e2]
    obtain ⟨e, s, hu, _, _⟩ := eqK_ptr ht
    exact run_two_of_equal (fun d => by cases p <;> simp [Op.equalIn, run_underlying hu]) (.inl ⟨_, _, rfl, rfl⟩)) hk
theorem R.eqSlNil {neg : Bool} {x y : Operand} {sz : Nat} {es : List (List AV)} {cc : Cap} (hx : aev E x = some (.sl sz es cc)) (hy : aev E y = some (.v (.slice none 0 0))) (hne : es ≠ []) (hk : K (.v (.bool neg)) h) : ROpS P c (.eq neg .slice x y) E h K :=
  ROpS.of_pure (fun o ho h' => AOp.value fun ρ w hops hr => by
    have hres := resOp_sound ho
    have e1 := hops x (eq_operands hres).1 _ hx
    have e2 := (hops y (eq_operands hres).2 _ hy).inv_v
    generalize hux : ρ x = ux at e1
    cases e1 with
    | nil => exact absurd rfl hne
    | sl _ _ _ b off cap vs h1 h2 h3 h4 h5 h6 =>
      have := run_eq_of hres ρ w (r := false) (fun op t => by rw [hux, e2]; exact run_eqGuard_atom _ _ _ _ _ _ (fun _ => by simp) (by simp)) (fun t ht => by
        rw [hux, e2]
        obtain ⟨e, hu⟩ := eqK_slice ht
        exact run_two_of_equal (fun d => by simp [Op.equalIn, run_underlying hu]) (.inr (.inl ⟨_, _, _, _, _, _, rfl, rfl⟩)))
      exact ⟨_, this, by cases neg <;> exact .v _⟩) hk
theorem R.eqSlAtom {neg : Bool} {x y : Operand} {a : Option Addr} {l cp : Nat} (hx : aev E x = some (.v (.slice a l cp))) (hy : aev E y = some (.v (.slice none 0 0))) (hk : K (.v (.bool (if neg then !a.isNone else a.isNone))) h) : ROpS P c (.eq neg .slice x y) E h K :=
  ROpS.of_pure (fun o ho h' => AOp.value fun ρ w hops hr => by
    have hres := resOp_sound ho
    have e1 := (hops x (eq_operands hres).1 _ hx).inv_v
    have e2 := (hops y (eq_operands hres).2 _ hy).inv_v
    refine ⟨_, run_eq_of hres ρ w (r := a.isNone) (fun op t => by rw [e1, e2]; exact run_eqGuard_atom _ _ _ _ _ _ (fun _ => by simp) (by simp)) (fun t ht => ?_), .v _⟩
    rw [e1, e2]
    obtain ⟨e, hu⟩ := eqK_slice ht
    exact run_two_of_equal (fun d => by cases a <;> simp [Op.equalIn, run_underlying hu]) (.inr (.inl ⟨_, _, _, _, _, _, rfl, rfl⟩))) hk
theorem R.eqMapNil {neg : Bool} {x y : Operand} {a : Option Nat} (hx : aev E x = some (.v (.map a))) (hy : aev E y = some (.v (.map none))) (hk : K (.v (.bool (if neg then !a.isNone else a.isNone))) h) : ROpS P c (.eq neg .map x y) E h K :=
  ROpS.of_pure (fun o ho h' => AOp.value fun ρ w hops hr => by
    have hres := resOp_sound ho
    have e1 := (hops x (eq_operands hres).1 _ hx).inv_v
    have e2 := (hops y (eq_operands hres).2 _ hy).inv_v
    refine ⟨_, run_eq_of hres ρ w (r := a.isNone) (fun op t => by rw [e1, e2]; exact run_eqGuard_atom _ _ _ _ _ _ (fun _ => by simp) (by simp)) (fun t ht => ?_), .v _⟩
    rw [e1, e2]
    obtain ⟨k, e, hu⟩ := eqK_map ht
    exact run_two_of_equal (fun d => by cases a <;> simp [Op.equalIn, run_underlying hu]) (.inr (.inr (.inl ⟨_, _, rfl, rfl⟩)))) hk
def atomEq : EqK → Value → Value → Option Bool
  | .int, .int a m, .int b n => if a = b then some (m == n) else none
  | .str, .string s, .string t => some (s.toList == t.toList)
  | .bool, .bool a, .bool b => some (a == b)
  | _, _, _ => none
def aggEq : List (Nat × EqK) → List Value → List Value → Option Bool
  | [], _, _ => some true
  | (o, k) :: r, xs, ys =>
    match xs[o]?, ys[o]? with
    | some a, some b => match atomEq k a b with
      | some true => aggEq r xs ys
      | some false => some false
      | none => none
    | _, _ => none
theorem eqK_int {d : Nat} {t : TypeId} (h : eqK P d t = some .int) : ∃ k, P.underlying t = some (.int k) := by
  cases d with
  | zero => simp [eqK] at h
  | succ d =>
    unfold eqK at h
    split at h <;> simp_all <;> (try (split at h <;> simp_all))
theorem eqK_str {d : Nat} {t : TypeId} (h : eqK P d t = some .str) : P.underlying t = some .string := by
  cases d with
  | zero => simp [eqK] at h
  | succ d =>
    unfold eqK at h
    split at h <;> simp_all <;> (try (split at h <;> simp_all))
theorem eqK_bool' {d : Nat} {t : TypeId} (h : eqK P d t = some .bool) : P.underlying t = some .bool := by
  cases d with
  | zero => simp [eqK] at h
  | succ d =>
    unfold eqK at h
    split at h <;> simp_all <;> (try (split at h <;> simp_all))
theorem atom_step {d d' : Nat} {t : TypeId} {k : EqK} {a b : Value} {r : Bool} (hk : eqK P d t = some k) (hr : atomEq k a b = some r) (w : World) :
    P.plainKey t = true ∧ (Op.equalIn (d' + 1) t a b).run P w = .ok r w := by
  unfold atomEq at hr
  split at hr
  · split at hr
    · rename_i e; subst e; cases hr
      obtain ⟨q, hu⟩ := eqK_int hk
      exact ⟨by simp [Program.plainKey, hu], run_equalIn_int w d' t _ q _ _ hu⟩
    · cases hr
  · cases hr
    have hu := eqK_str hk
    exact ⟨by simp [Program.plainKey, hu], run_equalIn_string w d' t _ _ hu⟩
  · cases hr
    have hu := eqK_bool' hk
    exact ⟨by simp [Program.plainKey, hu], run_equalIn_bool' w d' t _ _ hu⟩
  · cases hr
theorem run_fields_agg {d d' : Nat} {xs ys : List Value} (w : World) : ∀ (fs : List Field) (ks : List (Nat × EqK)) (r : Bool),
    (fs.mapM fun f => if f.name == "_" then none else match szOf P f.type with | some 1 => (eqK P d f.type).map fun k => (f.offset, k) | _ => none) = some ks → aggEq ks xs ys = some r →
    (Op.eqFields (d' + 1) xs.toArray ys.toArray fs).run P w = .ok r w
  | [], ks, r, hm, hr => by
    simp at hm
    subst hm
    simp only [aggEq, Option.some.injEq] at hr
    subst hr
    simp [Op.eqFields]
  | f :: fs, ks, r, hm, hr => by
    rw [List.mapM_cons] at hm
    simp only [bind, Option.bind_eq_some_iff, pure, Option.some.injEq] at hm
    obtain ⟨p, hp, ks', hks, rfl⟩ := hm
    split at hp
    · cases hp
    · rename_i hn
      split at hp
      · rw [Option.map_eq_some_iff] at hp
        obtain ⟨k, hk, rfl⟩ := hp
        simp only [aggEq] at hr
        split at hr
        · rename_i a b ha hb
          have hn' : f.name ≠ "_" := by simpa using hn
          have pa : ∀ r, atomEq k a b = some r → (part f.type xs.toArray f.offset).run P w = .ok a w ∧ (part f.type ys.toArray f.offset).run P w = .ok b w ∧ (Op.equalIn (d' + 1) f.type a b).run P w = .ok r w := fun r hr => by
            obtain ⟨h1, h2⟩ := atom_step (d' := d') hk hr w
            exact ⟨run_part_plain w h1 (by simpa using ha), run_part_plain w h1 (by simpa using hb), h2⟩
          split at hr
          · rename_i h1
            obtain ⟨p1, p2, p3⟩ := pa _ h1
            simp only [Op.eqFields, hn', ne_eq, not_false_eq_true, if_true, Sem.run_bind, p1, p2, p3, Result.andThen_ok]
            simpa using run_fields_agg w fs ks' r hks hr
          · rename_i h1
            cases hr
            obtain ⟨p1, p2, p3⟩ := pa _ h1
            simp [Op.eqFields, hn', Sem.run_bind, p1, p2, p3, Result.andThen_ok]
          · cases hr
        · cases hr
      · cases hp
theorem run_items_agg {d d' : Nat} {e : TypeId} {k : EqK} (hk : eqK P d e = some k) (hc : P.cellsOf e = 1) {xs ys : List Value} (w : World) : ∀ (is : List Nat) (r : Bool), aggEq (is.map fun i => (i, k)) xs ys = some r →
    (Op.eqItems (d' + 1) e (P.cellsOf e) xs.toArray ys.toArray is).run P w = .ok r w
  | [], r, hr => by
    simp only [List.map_nil, aggEq, Option.some.injEq] at hr
    subst hr
    simp [Op.eqItems]
  | i :: is, r, hr => by
    simp only [List.map_cons, aggEq] at hr
    split at hr
    · rename_i a b ha hb
      have pa : ∀ r, atomEq k a b = some r → (part e xs.toArray (i * P.cellsOf e)).run P w = .ok a w ∧ (part e ys.toArray (i * P.cellsOf e)).run P w = .ok b w ∧ (Op.equalIn (d' + 1) e a b).run P w = .ok r w := fun r hr => by
        obtain ⟨h1, h2⟩ := atom_step (d' := d') hk hr w
        rw [hc, Nat.mul_one]
        exact ⟨run_part_plain w h1 (by simpa using ha), run_part_plain w h1 (by simpa using hb), h2⟩
      split at hr
      · rename_i h1
        obtain ⟨p1, p2, p3⟩ := pa _ h1
        simp only [Op.eqItems, Sem.run_bind, p1, p2, p3, Result.andThen_ok]
        simpa using run_items_agg hk hc w is r hr
      · rename_i h1
        cases hr
        obtain ⟨p1, p2, p3⟩ := pa _ h1
        simp [Op.eqItems, Sem.run_bind, p1, p2, p3, Result.andThen_ok]
      · cases hr
    · cases hr
theorem run_equal_agg {t : TypeId} {ks : List (Nat × EqK)} {xs ys : List Value} {r : Bool} (hk : eqK P 10 t = some (.agg ks)) (hr : aggEq ks xs ys = some r) (w : World) :
    (Op.equal t (.agg xs.toArray) (.agg ys.toArray)).run P w = .ok r w ∧ P.eqGuardType P.depth t = false := by
  unfold eqK at hk
  split at hk
  all_goals first
    | (cases hk; done)
    | skip
  · split at hk
    · cases hk
    · cases hk
    · cases hk
  · rename_i fs hu
    split at hk
    · cases hk
    · rename_i hg
      simp only [Bool.or_eq_true, not_or, Bool.not_eq_true] at hg
      rw [Option.map_eq_some_iff] at hk
      obtain ⟨ks', hm, hks⟩ := hk
      cases hks
      refine ⟨?_, hg.2⟩
      have hf : P.fieldsOf t = fs := by simp [Program.fieldsOf, hu]
      have := run_equalIn_struct w 9999 t xs.toArray ys.toArray (by rw [hf]; exact hu) hg.1
      show (Op.equalIn (9999 + 1) t _ _).run P w = _
      rw [this, hf]
      exact run_fields_agg (d' := 9998) w fs.toList ks r hm hr
  · rename_i n e hu
    split at hk
    · cases hk
    · rename_i hg
      split at hk
      · rename_i hsz
        rw [Option.map_eq_some_iff] at hk
        obtain ⟨k, hke, hks⟩ := hk
        cases hks
        refine ⟨?_, by simpa using hg⟩
        unfold szOf at hsz
        rw [Option.map_eq_some_iff] at hsz
        obtain ⟨i, hi, hs⟩ := hsz
        have hc : P.cellsOf e = 1 := by simp [Program.cellsOf, hi, hs]
        show (Op.equalIn (9999 + 1) t _ _).run P w = _
        rw [run_equalIn_array w 9999 xs.toArray ys.toArray hu hi]
        exact run_items_agg (d' := 9998) hke hc w _ r hr
      · cases hk
theorem VRels.vals {st : Store} : ∀ {xs : List Value} {us : List Value}, VRels st (xs.map .v) us → us = xs
  | [], _, .nil => rfl
  | x :: xs, _, .cons h hs => by cases h; rw [VRels.vals hs]
theorem R.eqAgg {neg : Bool} {ks : List (Nat × EqK)} {x y : Operand} {xs ys : List Value} {r : Bool} (hx : aev E x = some (.ag (xs.map .v))) (hy : aev E y = some (.ag (ys.map .v))) (hr : aggEq ks xs ys = some r) (hk : K (.v (.bool (if neg then !r else r))) h) : ROpS P c (.eq neg (.agg ks) x y) E h K :=
  ROpS.of_pure (fun o ho h' => AOp.value fun ρ w hops hrel => by
    have hres := resOp_sound ho
    have e1 : ρ x = .agg xs.toArray := by
      have := hops x (eq_operands hres).1 _ hx
      generalize ρ x = u at this
      cases this with | ag _ vs g => have := g.vals; cases vs; simp_all
    have e2 : ρ y = .agg ys.toArray := by
      have := hops y (eq_operands hres).2 _ hy
      generalize ρ y = u at this
      cases this with | ag _ vs g => have := g.vals; cases vs; simp_all
    have hop : ∃ t, eqK P 10 t = some (.agg ks) ∧ ((∃ u, o.op = .binOp .eql t x y u ∧ neg = false) ∨ ∃ u, o.op = .binOp .neq t x y u ∧ neg = true) := by
      generalize o.op = op' at hres
      cases hres with
      | eql t u _ _ _ hk => exact ⟨t, hk, .inl ⟨u, rfl, rfl⟩⟩
      | neq t u _ _ _ hk => exact ⟨t, hk, .inr ⟨u, rfl, rfl⟩⟩
    obtain ⟨t, ht, hop⟩ := hop
    obtain ⟨heq, hgt⟩ := run_equal_agg ht hr w
    have hg : ∀ op, (eqGuard op t x y (.agg xs.toArray) (.agg ys.toArray)).run P w = .ok () w := fun op => by
      unfold eqGuard
      cases op <;> simp [hgt, Sem.run_bind, run_program, Result.andThen]
    refine ⟨_, ?_, .v _⟩
    rcases hop with ⟨u, hop, rfl⟩ | ⟨u, hop, rfl⟩
    · simp only [execOp, hop, Sem.run_bind, e1, e2, hg, Result.andThen_ok, binOp, heq]; rfl
    · simp only [execOp, hop, Sem.run_bind, e1, e2, hg, Result.andThen_ok, binOp, heq]; rfl) hk
end
end Go.Av
