/-
  AdyaDeps answers true for every history
-/
import Derived.Test.YthfolomknkobkaaP21
set_option linter.unusedVariables false
namespace Go.Av
abbrev EEnv := List (Nat × EV)
def EEnv.get : EEnv → Nat → Option EV
  | [], _ => none
  | (k, x) :: r, t => match Nat.beq t k with | true => some x | false => EEnv.get r t
def EEnv.set : EEnv → Nat → EV → EEnv
  | [], t, y => [(t, y)]
  | (k, x) :: r, t, y => match Nat.beq t k with | true => (t, y) :: r | false => (k, x) :: EEnv.set r t y
theorem nbeq {a b : Nat} : (Nat.beq a b = true ∧ a = b) ∨ (Nat.beq a b = false ∧ a ≠ b) := by
  cases h : Nat.beq a b with
  | true => exact .inl ⟨rfl, Nat.eq_of_beq_eq_true h⟩
  | false => exact .inr ⟨rfl, Nat.ne_of_beq_eq_false h⟩
theorem EEnv.get_set : ∀ (l : EEnv) (t : Nat) (y : EV) (s : Nat), EEnv.get (EEnv.set l t y) s = if s = t then some y else EEnv.get l s
  | [], t, y, s => by
    rcases nbeq (a := s) (b := t) with ⟨h1, h2⟩ | ⟨h1, h2⟩ <;> simp [EEnv.set, EEnv.get, h1, h2]
  | (k, x) :: r, t, y, s => by
    simp only [EEnv.set]
    rcases nbeq (a := t) (b := k) with ⟨h1, h2⟩ | ⟨h1, h2⟩
    · subst h2
      simp only [h1]
      rcases nbeq (a := s) (b := t) with ⟨g1, g2⟩ | ⟨g1, g2⟩ <;> simp [EEnv.get, g1, g2]
    · simp only [h1]
      simp only [EEnv.get]
      rcases nbeq (a := s) (b := k) with ⟨g1, g2⟩ | ⟨g1, g2⟩
      · simp only [g1]
        rw [if_neg (by omega)]
      · simp only [g1]
        exact EEnv.get_set r t y s
def EnvOk (ρ : Ren) (l : EEnv) (E : AEnv) : Prop := ∀ t e, EEnv.get l t = some e → ∃ a, E t = some a ∧ RV ρ e a
theorem EnvOk.mono {ρ ρ' : Ren} (h : ρ.le ρ') {l : EEnv} {E : AEnv} (ho : EnvOk ρ l E) : EnvOk ρ' l E := fun t e he => let ⟨a, h1, h2⟩ := ho t e he; ⟨a, h1, h2.mono h⟩
theorem EnvOk.set {ρ : Ren} {l : EEnv} {E : AEnv} (ho : EnvOk ρ l E) {d : Nat} {e : EV} {a : AV} (h : RV ρ e a) : EnvOk ρ (EEnv.set l d e) (E.put (some d) a) := by
  intro t e' he
  rw [EEnv.get_set] at he
  split at he
  · rename_i ht; cases he; exact ⟨a, by simp [AEnv.put, ht], h⟩
  · rename_i ht; obtain ⟨b, h1, h2⟩ := ho t e' he; exact ⟨b, by simp [AEnv.put, ht, h1], h2⟩
def EEnv.put (l : EEnv) (d : Option Nat) (e : EV) : EEnv := match d with | some d => EEnv.set l d e | none => l
theorem EnvOk.put {ρ : Ren} {l : EEnv} {E : AEnv} (ho : EnvOk ρ l E) {d : Option Nat} {e : EV} {a : AV} (h : RV ρ e a) : EnvOk ρ (EEnv.put l d e) (E.put d a) := by
  cases d with
  | none => exact ho
  | some d => exact ho.set h
def oev (l : EEnv) : Operand → Option EV
  | .tmp t => EEnv.get l t
  | .const v => some (.k v)
  | .global g => some (.k (.pointer (some ⟨g, 0, none⟩)))
  | .func f => some (.fn f [])
theorem oev_ok {ρ : Ren} {l : EEnv} {E : AEnv} (ho : EnvOk ρ l E) {x : Operand} {e : EV} (h : oev l x = some e) : ∃ a, aev E x = some a ∧ RV ρ e a := by
  cases x with
  | tmp t => exact ho t e h
  | const v => simp only [oev, Option.some.injEq] at h; subst h; exact ⟨_, rfl, .k v⟩
  | global g => simp only [oev, Option.some.injEq] at h; subst h; exact ⟨_, rfl, .k _⟩
  | func f => simp only [oev, Option.some.injEq] at h; subst h; exact ⟨_, rfl, .fn f [] .nil⟩
def oevs (l : EEnv) : List Operand → Option (List EV)
  | [] => some []
  | x :: xs => match oev l x, oevs l xs with | some e, some es => some (e :: es) | _, _ => none
theorem oevs_ok {ρ : Ren} {l : EEnv} {E : AEnv} (ho : EnvOk ρ l E) : ∀ {xs : List Operand} {es : List EV}, oevs l xs = some es → ∃ as, avs E xs = some as ∧ RVs ρ es as
  | [], es, h => by simp only [oevs, Option.some.injEq] at h; subst h; exact ⟨[], rfl, .nil⟩
  | x :: xs, es, h => by
    simp only [oevs] at h
    split at h
    · rename_i e es' h1 h2
      cases h
      obtain ⟨a, g1, g2⟩ := oev_ok ho h1
      obtain ⟨as, g3, g4⟩ := oevs_ok ho h2
      exact ⟨a :: as, by simp only [avs, g1, g3], .cons g2 g4⟩
    · cases h
theorem oev_k {ρ : Ren} {l : EEnv} {E : AEnv} (ho : EnvOk ρ l E) {x : Operand} {v : Value} (h : oev l x = some (.k v)) : aev E x = some (.v v) := by
  obtain ⟨a, h1, h2⟩ := oev_ok ho h
  cases h2
  exact h1
def oints (l : EEnv) : List Operand → Option (List (IntKind × Int))
  | [] => some []
  | x :: xs => match oev l x, oints l xs with | some (.k (.int k n)), some r => some ((k, n) :: r) | _, _ => none
theorem oints_ok {ρ : Ren} {l : EEnv} {E : AEnv} (ho : EnvOk ρ l E) : ∀ {xs : List Operand} {r : List (IntKind × Int)}, oints l xs = some r → ints E xs = some r
  | [], r, h => by simp only [oints, Option.some.injEq] at h; subst h; rfl
  | x :: xs, r, h => by
    simp only [oints] at h
    split at h
    · rename_i k n r' h1 h2
      cases h
      simp only [ints, oev_k ho h1, oints_ok ho h2]
    · cases h
def oparts (l : EEnv) : List (Nat × Nat × Operand) → Option (List (Nat × Nat × EV))
  | [] => some []
  | (off, sz, x) :: r => match oev l x, oparts l r with | some e, some es => some ((off, sz, e) :: es) | _, _ => none
theorem oparts_ok {ρ : Ren} {l : EEnv} {E : AEnv} (ho : EnvOk ρ l E) : ∀ {xs : List (Nat × Nat × Operand)} {es : List (Nat × Nat × EV)}, oparts l xs = some es → ∃ as, aparts E xs = some as ∧ RPs ρ es as
  | [], es, h => by simp only [oparts, Option.some.injEq] at h; subst h; exact ⟨[], rfl, .nil⟩
  | (off, sz, x) :: xs, es, h => by
    simp only [oparts] at h
    split at h
    · rename_i e es' h1 h2
      cases h
      obtain ⟨a, g1, g2⟩ := oev_ok ho h1
      obtain ⟨as, g3, g4⟩ := oparts_ok ho h2
      exact ⟨_, by simp only [aparts, g1, g3], .cons g2 g4⟩
    · cases h
def oslparts (l : EEnv) (sz : Nat) : List (Nat × Operand) → Option (List (Nat × Nat × EV))
  | [] => some []
  | (i, x) :: r => match oev l x, oslparts l sz r with | some e, some es => some ((i * sz, sz, e) :: es) | _, _ => none
theorem oslparts_ok {ρ : Ren} {l : EEnv} {E : AEnv} (ho : EnvOk ρ l E) {sz : Nat} : ∀ {xs : List (Nat × Operand)} {es : List (Nat × Nat × EV)}, oslparts l sz xs = some es → ∃ as, slParts E sz xs = some as ∧ RPs ρ es as
  | [], es, h => by simp only [oslparts, Option.some.injEq] at h; subst h; exact ⟨[], rfl, .nil⟩
  | (i, x) :: xs, es, h => by
    simp only [oslparts] at h
    split at h
    · rename_i e es' h1 h2
      cases h
      obtain ⟨a, g1, g2⟩ := oev_ok ho h1
      obtain ⟨as, g3, g4⟩ := oslparts_ok ho h2
      exact ⟨_, by simp only [slParts, g1, g3], .cons g2 g4⟩
    · cases h
def ooint (l : EEnv) : Option Operand → Option (Option Int)
  | none => some none
  | some x => match oev l x with | some (.k (.int _ n)) => some (some n) | _ => none
theorem ooint_ok {ρ : Ren} {l : EEnv} {E : AEnv} (ho : EnvOk ρ l E) {x : Option Operand} {r : Option Int} (h : ooint l x = some r) : optInt E x = some r := by
  cases x with
  | none => simp only [ooint, Option.some.injEq] at h; subst h; rfl
  | some x =>
    simp only [ooint] at h
    split at h
    · rename_i k n h1; cases h; simp only [optInt, oev_k ho h1]
    · cases h
def oatoms (l : EEnv) : List Operand → Option (List EV)
  | [] => some []
  | x :: xs => match oev l x, oatoms l xs with
    | some (.k v), some es => some (.k v :: es)
    | some (.pt i o), some es => some (.pt i o :: es)
    | some (.mp i), some es => some (.mp i :: es)
    | some (.fn f c), some es => some (.fn f c :: es)
    | some (.yd i), some es => some (.yd i :: es)
    | some (.it i), some es => some (.it i :: es)
    | _, _ => none
theorem atoms_cons {E : AEnv} {x : Operand} {xs : List Operand} {a : Value} {l : List Value} (h : aev E x = some (.v a)) (h' : atoms E xs = some l) : atoms E (x :: xs) = some (a :: l) := by simp only [atoms, h, h']
theorem oatoms_ok {ρ : Ren} {l : EEnv} {E : AEnv} (ho : EnvOk ρ l E) : ∀ {xs : List Operand} {es : List EV}, oatoms l xs = some es → ∃ vs, atoms E xs = some vs ∧ RVs ρ es (vs.map .v)
  | [], es, h => by simp only [oatoms, Option.some.injEq] at h; subst h; exact ⟨[], rfl, .nil⟩
  | x :: xs, es, h => by
    simp only [oatoms] at h
    split at h
    all_goals first
      | (rename_i es' h1 h2
         cases h
         obtain ⟨a, g1, g2⟩ := oev_ok ho h1
         obtain ⟨as, g3, g4⟩ := oatoms_ok ho h2
         cases g2 <;> exact ⟨_, atoms_cons g1 g3, .cons (by constructor <;> assumption) g4⟩)
      | cases h
def EV.key? : EV → Option Value
  | .k (.int kd n) => some (.int kd n)
  | .k (.string s) => some (.string s)
  | _ => none
theorem key?_ok {ρ : Ren} {e : EV} {a : AV} (h : RV ρ e a) {v : Value} (hv : e.key? = some v) : ∀ st u, VRel st a u → u = v := by
  cases h with
  | k x => cases x <;> simp [EV.key?] at hv <;> subst hv <;> intro st u hu <;> cases hu <;> rfl
  | _ => simp [EV.key?] at hv
def keq : Value → Value → Bool
  | .int a m, .int b n => decide (a = b) && decide (m = n)
  | .string s, .string t => decide (s.data.toList = t.data.toList)
  | _, _ => false
inductive KK where
  | int (kd : IntKind)
  | str
  deriving Inhabited
def KK.is : KK → Value → Bool
  | .int kd, .int kd' _ => decide (kd = kd')
  | .str, .string _ => true
  | _, _ => false
def KK.set : KK → Value → Prop
  | .int kd => intKey kd
  | .str => strKey
theorem KK.is_ok {q : KK} {v : Value} (h : q.is v = true) : q.set v := by
  cases q with
  | int kd => cases v <;> simp [KK.is] at h; exact ⟨_, by rw [h]⟩
  | str => cases v <;> simp [KK.is] at h; exact ⟨_, rfl⟩
theorem keq_ok {q : KK} {a b : Value} (ha : q.is a = true) (hb : q.is b = true) : keq a b = true ↔ a = b := by
  cases q with
  | int kd => cases a <;> cases b <;> simp_all [KK.is, keq]
  | str =>
    cases a <;> cases b <;> simp_all [KK.is, keq]
    rename_i s t
    constructor
    · intro h; cases s; cases t; simp_all
    · intro h; rw [h]
structure Kx where
  kk : TypeId → Option KK
  ow : Nat → Bool
instance : Coe (TypeId → Option KK) Kx := ⟨fun f => ⟨f, fun _ => false⟩⟩
def KkOk (P : Program) (kk : Kx) : Prop := ∀ t q, kk.kk t = some q → KeyR P t q.set
def findI (key : Value) : List (Value × EV) → Nat → Option (Option Nat)
  | [], _ => some none
  | p :: l, j => if keq p.1 key then (if l.any (fun q => keq q.1 key) then none else some (some j)) else findI key l (j + 1)
theorem findI_none {key : Value} : ∀ {l : List (Value × EV)} {j : Nat}, findI key l j = some none → ∀ p ∈ l, keq p.1 key = false
  | [], _, _, p, hp => by simp at hp
  | q :: l, j, h, p, hp => by
    simp only [findI] at h
    split at h
    · split at h <;> cases h
    · rename_i hq
      rcases List.mem_cons.1 hp with rfl | hp
      · simpa using hq
      · exact findI_none h p hp
theorem findI_some {key : Value} : ∀ {l : List (Value × EV)} {j n : Nat}, findI key l j = some (some n) → ∃ m, n = j + m ∧ (∃ p, l[m]? = some p ∧ keq p.1 key = true) ∧ ∀ m' p, l[m']? = some p → keq p.1 key = true → m' = m
  | [], j, n, h => by simp [findI] at h
  | q :: l, j, n, h => by
    simp only [findI] at h
    split at h
    · rename_i hq
      split at h
      · cases h
      · rename_i ha
        cases h
        refine ⟨0, rfl, ⟨q, rfl, hq⟩, fun m' p hp hk => ?_⟩
        cases m' with
        | zero => rfl
        | succ m' =>
          exfalso
          apply ha
          rw [List.any_eq_true]
          exact ⟨p, List.mem_of_getElem? (by simpa using hp), hk⟩
    · rename_i hq
      obtain ⟨m, h1, ⟨p, h2, h3⟩, h4⟩ := findI_some h
      refine ⟨m + 1, by omega, ⟨p, by simpa using h2, h3⟩, fun m' p' hp hk => ?_⟩
      cases m' with
      | zero => simp at hp; subst hp; exact absurd hk hq
      | succ m' => rw [h4 m' p' (by simpa using hp) hk]
abbrev CallE := FuncId → List EV → List EBlk → Option (EV × List EBlk)
def capCutE (c : ECap) (lo hi len : Nat) (mx : Option Int) : ECap :=
  match mx with
  | some m => if m = hi then .full else .ro
  | none => if lo = 0 ∧ hi = len then c else match c with | .full => if hi = len then .full else .ro | _ => .ro
def evKs : List EV → Option (List Value)
  | [] => some []
  | .k v :: r => (match evKs r with | some l => some (v :: l) | none => none)
  | _ :: _ => none
theorem evKs_ok {ρ : Ren} : ∀ {es : List EV} {as : List AV} {l : List Value}, RVs ρ es as → evKs es = some l → as = l.map .v
  | _, _, l, .nil, h => by simp only [evKs, Option.some.injEq] at h; subst h; rfl
  | _, _, l, .cons h1 h2, h => by
    cases h1 with
    | k x =>
      simp only [evKs] at h
      split at h <;> cases h
      rename_i hl
      rw [evKs_ok h2 hl]; rfl
    | _ => simp [evKs] at h
def evalEq (neg : Bool) (q : EqK) (x y : EV) : Option Bool :=
  match q, x, y with
  | .int, .k (.int k a), .k (.int k' b) => if k = k' then some (if neg then !(a == b) else a == b) else none
  | .str, .k (.string a), .k (.string b) => some (if neg then !(a.toList == b.toList) else a.toList == b.toList)
  | .bool, .k (.bool a), .k (.bool b) => some (if neg then !(a == b) else a == b)
  | .ptr, .pt _ _, .k (.pointer none) => some neg
  | .ptr, .k (.pointer p), .k (.pointer none) => some (if neg then !p.isNone else p.isNone)
  | .slice, .sl _ (_ :: _) _, .k (.slice none 0 0) => some neg
  | .slice, .slb _ _, .k (.slice none 0 0) => some neg
  | .slice, .k (.slice a _ _), .k (.slice none 0 0) => some (if neg then !a.isNone else a.isNone)
  | .map, .mp _, .k (.map none) => some neg
  | .map, .k (.map a), .k (.map none) => some (if neg then !a.isNone else a.isNone)
  | .agg ks, .ag a, .ag b => (match evKs a, evKs b with | some xs, some ys => (match aggEq ks xs ys with | some r => some (if neg then !r else r) | none => none) | _, _ => none)
  | _, _, _ => none
def Src? (sz : Nat) : EV → Option (List (List EV))
  | .sl sz' es _ => if sz = sz' then some es else none
  | .k (.slice none 0 0) => some []
  | _ => none
def Dst? (sz : Nat) : EV → Option (List (List EV) × ECap)
  | .sl sz' es c => if sz = sz' then some (es, c) else none
  | .k (.slice none 0 0) => some ([], .full)
  | _ => none
def evalOp (kk : Kx) (call : CallE) (c : Cls) (l : EEnv) (H : List EBlk) (r : ROp) : Option (EV × List EBlk) :=
  match r with
  | .mv x => match oev l x with | some e => some (e, H) | none => none
  | .pick a x y => match oev l a with
    | some (.k (.bool true)) => (match oev l x with | some e => some (e, H) | none => none)
    | some (.k (.bool false)) => (match oev l y with | some e => some (e, H) | none => none)
    | _ => none
  | .bin op x y => match oev l x, oev l y with
    | some (.k (.int k a)), some (.k (.int k' b)) => if k = k' then (match binInt op k a b with | some v => some (.k v, H) | none => none) else none
    | some (.k (.string a)), some (.k (.string b)) => (match binStr op a b with | some v => some (.k v, H) | none => none)
    | _, _ => none
  | .eq neg q x y => match oev l x, oev l y with
    | some a, some b => (match evalEq neg q a b with | some r => some (.k (.bool r), H) | none => none)
    | _, _ => none
  | .un op x => match op, oev l x with
    | .not, some (.k (.bool b)) => some (.k (.bool (!b)), H)
    | .neg, some (.k (.int k a)) => some (.k (.int k (k.wrap (0 - a))), H)
    | _, _ => none
  | .convInt k x => match oev l x with
    | some (.k (.int _ a)) => some (.k (.int k (k.wrap a)), H)
    | _ => none
  | .convStr x => match oev l x with
    | some (.k (.string s)) => some (.k (.string s), H)
    | _ => none
  | .alloc z => if c = .act then some (.pt H.length 0, H ++ [.box (z.map .k)]) else none
  | .box x => if c = .act then (match oev l x with
    | some e => (match e.cells? with | some cs => some (.pt H.length 0, H ++ [.box cs]) | none => none)
    | none => none) else none
  | .build z qs => match oparts l qs with
    | some ps => (match fillE (z.map .k) ps with | some out => some (.ag out, H) | none => none)
    | none => none
  | .buildSl sz z len qs => match oslparts l sz qs with
    | some ps => (match fillE (((List.replicate len z).flatten).map .k) ps with
      | some out => if out.length = len * sz ∧ len ≤ maxLen then some (.sl sz (chunksE sz len out) .full, H) else none
      | none => none)
    | none => none
  | .load agg sz x => match oev l x with
    | some (.pt i off) => if c = .pure then none else (match H[i]? with
      | some (.box cs) => (match loadE agg sz (cs.drop off) with | some e => some (e, H) | none => none)
      | _ => none)
    | some (.rp cs) => (match loadE agg sz cs with | some e => some (e, H) | none => none)
    | _ => none
  | .store sz x y => if c = .act then (match oev l x, oev l y with
    | some (.pt i off), some e => (match H[i]?, e.cells? with
      | some (.box cs), some xs => if xs.length = sz ∧ off + sz ≤ cs.length then some (.k undef, H.set i (.box (overE cs off xs))) else none
      | _, _ => none)
    | _, _ => none) else none
  | .nilCheck x => match oev l x with
    | some (.pt i off) => some (.pt i off, H)
    | some (.rp cs) => some (.rp cs, H)
    | _ => none
  | .fieldAddr o x => match oev l x with
    | some (.pt i off) => some (.pt i (off + o), H)
    | some (.rp cs) => some (.rp (cs.drop o), H)
    | _ => none
  | .field agg off sz x => match oev l x with
    | some (.ag cs) => (match (if agg then (if off + sz ≤ cs.length then some (.ag ((cs.drop off).take sz)) else none) else cs[off]?) with | some e => some (e, H) | none => none)
    | _ => none
  | .indexAddr sz x i => match oev l x, oev l i with
    | some (.sl sz' es _), some (.k (.int _ n)) => if sz = sz' ∧ 0 ≤ n then (match es[n.toNat]? with | some e => some (.rp e, H) | none => none) else none
    | some (.slb j len), some (.k (.int _ n)) => if 0 ≤ n ∧ n < len then some (.pt j (n.toNat * sz), H) else none
    | _, _ => none
  | .indexStr x i => match oev l x, oev l i with
    | some (.k (.string s)), some (.k (.int _ n)) => if 0 ≤ n then (match s.data.toList[n.toNat]? with | some b => some (.k (.int .u8 b.toNat), H) | none => none) else none
    | _, _ => none
  | .sliceSl sz x lo hi mx => match oev l x, ooint l lo, ooint l hi, ooint l mx with
    | some (.sl sz' es cc), some ol, some oh, some om =>
      if sz = sz' ∧ 0 ≤ ol.getD 0 ∧ ol.getD 0 ≤ oh.getD es.length ∧ oh.getD es.length ≤ es.length ∧ (om = none ∨ om = some (oh.getD es.length) ∧ oh.isSome) ∧ 0 < sz then
        some (.sl sz ((es.drop (ol.getD 0).toNat).take ((oh.getD es.length).toNat - (ol.getD 0).toNat)) (capCutE cc (ol.getD 0).toNat (oh.getD es.length).toNat es.length om), H)
      else none
    | some (.k (.slice none 0 0)), some ol, some oh, some om => (match x with
      | .tmp _ =>
        if 0 ≤ ol.getD 0 ∧ ol.getD 0 ≤ oh.getD 0 ∧ oh.getD 0 ≤ 0 ∧ (om = none ∨ om = some (oh.getD 0) ∧ oh.isSome) ∧ 0 < sz then
          some (.sl sz [] (capCutE .full (ol.getD 0).toNat (oh.getD 0).toNat 0 om), H)
        else none
      | _ => none)
    | _, _, _, _ => none
  | .len x => match oev l x with
    | some (.sl _ es _) => some (.k (.int .i64 es.length), H)
    | some (.slb _ n) => some (.k (.int .i64 n), H)
    | some (.k (.slice _ n _)) => some (.k (.int .i64 n), H)
    | _ => none
  | .lenStr x => match oev l x with
    | some (.k (.string s)) => some (.k (.int .i64 s.size), H)
    | _ => none
  | .append sz bytes z x y => if c = .act then (match oev l x, oev l y with
    | some d, some s => (match Dst? sz d, Src? sz s with
      | some (xs, cc), some ys =>
        if (∀ e ∈ ys, e.all EV.one = true) ∧ xs.length + ys.length ≤ 4611686018427387904 ∧ (xs.length + ys.length) * bytes ≤ 140737488355328 then
          (match cc with
          | .full => if kk.ow sz = true ∧ xs.length = 0 ∧ ys.length ≠ 0 then some (.slb H.length ys.length, H ++ [.box ys.flatten]) else some (.sl sz (xs ++ ys) (.tok H.length), H ++ [.grow])
          | .tok i => (match H[i]? with | some .grow => some (.sl sz (xs ++ ys) (.tok H.length), H.set i .dead ++ [.grow]) | _ => none)
          | .ro => none)
        else none
      | _, _ => none)
    | _, _ => none) else (match oev l x, oev l y with
    | some d, some s => (match Dst? sz d, Src? sz s with
      | some (xs, .full), some ys =>
        if (∀ e ∈ ys, e.all EV.one = true) ∧ xs.length + ys.length ≤ 4611686018427387904 ∧ (xs.length + ys.length) * bytes ≤ 140737488355328 then some (.sl sz (xs ++ ys) .ro, H) else none
      | _, _ => none)
    | _, _ => none)
  | .minmax isMax xs => match oints l xs with
    | some ((k, m) :: r) => some (.k (.int k (if isMax then maxInt (r.map (·.2)) m else minInt (r.map (·.2)) m)), H)
    | _ => none
  | .extract x i => match oev l x with
    | some (.tu cs) => (match cs[i]? with | some e => some (e, H) | none => none)
    | _ => none
  | .call f args => if c = .act then (match oevs l args with | some es => call f es H | none => none) else if c = .pure then none else
    (match oevs l args with
    | some es => (match call f es H with
      | some (e, H') => (match EV.closed e with | some _ => if preBeq H H' = true then some (EV.ro e, H) else none | none => none)
      | none => none)
    | none => none)
  | .callv g args => if c = .act then (match oev l g, oevs l args with | some (.fn f cap), some es => call f (es ++ cap) H | _, _ => none) else none
  | .makeFunc (.func f) first cap => match oatoms l first, oatoms l cap with | some [], some es => some (.fn f es, H) | _, _ => none
  | .makeMap => if c = .act then some (.mp H.length, H ++ [.map []]) else none
  | .lookup kt z x y ok => if c = .pure then none else (match oev l x, oev l y, kk.kk kt with
    | some (.mp i), some ye, some q => (match H[i]?, ye.key? with
      | some (.map es), some key => if q.is key = true ∧ es.all (fun p => q.is p.1) = true then (match findI key es 0 with
        | some none => some (if ok then .tu [.k z, .k (.bool false)] else .k z, H)
        | some (some j) => (match es[j]? with | some p => some (if ok then .tu [p.2, .k (.bool true)] else p.2, H) | none => none)
        | none => none) else none
      | _, _ => none)
    | _, _, _ => none)
  | .mapUpdate kt m x y => if c = .act then (match oev l m, oev l x, oev l y, kk.kk kt with
    | some (.mp i), some xe, some ye, some q => (match H[i]?, xe.key? with
      | some (.map es), some key => if q.is key = true ∧ es.all (fun p => q.is p.1) = true then (match findI key es 0 with
        | some none => some (.k undef, H.set i (.map (es ++ [(key, ye)])))
        | some (some j) => some (.k undef, H.set i (.map (es.set j (key, ye))))
        | none => none) else none
      | _, _ => none)
    | _, _, _, _ => none) else none
  | .rangeMap x => if c = .act then (match oev l x with
    | some (.k (.map none)) => some (.it H.length, H ++ [.iter none])
    | some (.mp i) => (match H[i]? with | some (.map _) => some (.it H.length, H ++ [.iter (some i)]) | _ => none)
    | _ => none) else none
  | .nextMap x => if c = .act then (match oev l x with
    | some (.it i) => (match H[i]? with
      | some (.iter none) => some (.tu [.k (.bool false)], H)
      | some (.iter (some m)) => (match H[m]? with | some (.map []) => some (.tu [.k (.bool false)], H) | _ => none)
      | _ => none)
    | _ => none) else none
  | _ => none
end Go.Av
