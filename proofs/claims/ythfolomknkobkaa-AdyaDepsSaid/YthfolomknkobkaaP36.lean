/-
  AdyaDeps answers true for every history
-/
import Derived.Test.YthfolomknkobkaaP1
import Derived.Lib.Bytealg
set_option linter.unusedVariables false
namespace Go.Ad
open Go.Av
structure Seen where
  key : List UInt8
  ts : UInt64
  txn : UInt64
  keys : List (List UInt8)
structure Span where
  lo : List UInt8
  hi : List UInt8
structure Run where
  txn : UInt64
  level : Int
  state : Int
  start : UInt64
  ts : UInt64
  keys : List (List UInt8)
  seen : List Seen
  spans : List Span
  deriving Inhabited
structure Dep where
  src : UInt64
  dst : UInt64
  kind : Int
  deriving DecidableEq
section
variable {α : Type}
def idx (p : α → Bool) (l : List α) : Int := if l.findIdx p < l.length then (l.findIdx p : Int) else -1
theorem idx_some {p : α → Bool} {l : List α} {i : Nat} (hi : i < l.length) (h1 : p l[i] = true) (h2 : ∀ j (hj : j < i), p (l[j]'(Nat.lt_trans hj hi)) = false) : idx p l = i := by
  have := (List.findIdx_eq hi).2 ⟨h1, h2⟩
  unfold idx
  rw [this, if_pos hi]
theorem idx_none {p : α → Bool} {l : List α} (h : ∀ x ∈ l, p x = false) : idx p l = -1 := by
  have := List.findIdx_eq_length.2 h
  unfold idx
  rw [this, if_neg (Nat.lt_irrefl _)]
theorem idx_any (p : α → Bool) (l : List α) : decide (0 ≤ idx p l) = l.any p := by
  unfold idx
  by_cases h : l.findIdx p < l.length
  · rw [if_pos h, decide_eq_true (by omega)]
    exact (List.any_eq_true.2 ⟨_, List.getElem_mem h, List.findIdx_getElem⟩).symm
  · rw [if_neg h, decide_eq_false (by omega)]
    have h2 : l.findIdx p = l.length := Nat.le_antisymm (List.findIdx_le_length) (Nat.le_of_not_lt h)
    have h3 := List.findIdx_eq_length.1 h2
    symm
    rw [List.any_eq_false]
    intro x hx
    rw [h3 x hx]
    exact Bool.false_ne_true
theorem idx_find {p : α → Bool} {l : List α} : (0 ≤ idx p l ∧ ∃ (hi : (idx p l).toNat < l.length), l.find? p = some l[(idx p l).toNat]) ∨ (idx p l = -1 ∧ l.find? p = none) := by
  unfold idx
  by_cases h : l.findIdx p < l.length
  · left
    rw [if_pos h]
    refine ⟨by omega, by simpa using h, ?_⟩
    simp only [Int.toNat_natCast]
    exact List.find?_eq_some_iff_getElem.2 ⟨List.findIdx_getElem, _, h, rfl, fun j hj => by simpa using List.not_of_lt_findIdx hj⟩
  · right
    rw [if_neg h]
    have h2 : l.findIdx p = l.length := Nat.le_antisymm (List.findIdx_le_length) (Nat.le_of_not_lt h)
    refine ⟨rfl, List.find?_eq_none.2 fun x hx => ?_⟩
    rw [List.findIdx_eq_length.1 h2 x hx]
    exact Bool.false_ne_true
end
def cmpU (a b : UInt64) : Int := if a.toNat < b.toNat then -1 else if b.toNat < a.toNat then 1 else 0
def cmpT (a b : Run) : Int := if cmpU a.ts b.ts ≠ 0 then cmpU a.ts b.ts else cmpU a.txn b.txn
def ltT (a b : Run) : Bool := decide (cmpT a b < 0)
theorem cmpU_lt {a b : UInt64} : cmpU a b < 0 ↔ a.toNat < b.toNat := by
  unfold cmpU
  by_cases h1 : a.toNat < b.toNat
  · rw [if_pos h1]; exact ⟨fun _ => h1, fun _ => by decide⟩
  · rw [if_neg h1]
    by_cases h2 : b.toNat < a.toNat
    · rw [if_pos h2]; exact ⟨fun h => by omega, fun h => by omega⟩
    · rw [if_neg h2]; exact ⟨fun h => by omega, fun h => by omega⟩
theorem cmpU_zero {a b : UInt64} : cmpU a b = 0 ↔ a.toNat = b.toNat := by
  unfold cmpU
  by_cases h1 : a.toNat < b.toNat
  · rw [if_pos h1]; exact ⟨fun h => by omega, fun h => by omega⟩
  · rw [if_neg h1]
    by_cases h2 : b.toNat < a.toNat
    · rw [if_pos h2]; exact ⟨fun h => by omega, fun h => by omega⟩
    · rw [if_neg h2]; exact ⟨fun h => by omega, fun h => by omega⟩
theorem cmpU_sm (a b : UInt64) : cmpU a b = -1 ∨ cmpU a b = 0 ∨ cmpU a b = 1 := by
  unfold cmpU
  split
  · exact .inl rfl
  · split
    · exact .inr (.inr rfl)
    · exact .inr (.inl rfl)
theorem cmpT_sm (a b : Run) : cmpT a b = -1 ∨ cmpT a b = 0 ∨ cmpT a b = 1 := by
  unfold cmpT
  split
  · exact cmpU_sm _ _
  · exact cmpU_sm _ _
theorem ltT_iff {a b : Run} : ltT a b = true ↔ a.ts.toNat < b.ts.toNat ∨ (a.ts.toNat = b.ts.toNat ∧ a.txn.toNat < b.txn.toNat) := by
  unfold ltT cmpT
  rw [decide_eq_true_eq]
  by_cases h : cmpU a.ts b.ts = 0
  · rw [if_neg (by simpa using h), cmpU_lt]; have h2 := cmpU_zero.1 h; constructor <;> intro <;> omega
  · rw [if_pos h, cmpU_lt]
    have h2 : ¬ a.ts.toNat = b.ts.toNat := fun e => h (cmpU_zero.2 e)
    constructor <;> intro <;> omega
theorem ltT_sw : St.SW ltT := by
  constructor
  · intro a; cases h : ltT a a with
    | false => rfl
    | true => have := ltT_iff.1 h; omega
  · intro a b c h1 h2
    have g1 := ltT_iff.1 h1; have g2 := ltT_iff.1 h2
    exact ltT_iff.2 (by omega)
  · intro a b c h1 h2
    have g1 : ¬ _ := fun h => by rw [ltT_iff.2 h] at h1; cases h1
    have g2 : ¬ _ := fun h => by rw [ltT_iff.2 h] at h2; cases h2
    cases h3 : ltT a c with
    | false => rfl
    | true => have := ltT_iff.1 h3; omega
def commit (r : Run) : Bool := decide (r.state = 1)
def writes (r : Run) (k : List UInt8) : Bool := commit r && decide (k ∈ r.keys)
def wrote (l : List Run) (k : List UInt8) : List Run := St.isort ltT (l.filter fun r => writes r k)
def order (l : List Run) (k : List UInt8) : List UInt64 := (wrote l k).map (·.txn)
def keysOf (l : List Run) : List (List UInt8) := (l.filter commit).flatMap (·.keys)
def addD (out : List Dep) (d : Dep) : List Dep := if d ∈ out then out else out ++ [d]
def wwL : List UInt64 → List Dep
  | a :: b :: r => ⟨a, b, 1⟩ :: wwL (b :: r)
  | _ => []
def findR (l : List Run) (t : UInt64) : Option Run := l.find? fun r => decide (r.txn = t)
def comm (l : List Run) (t : UInt64) : Option Run := (findR l t).filter commit
def readD (l : List Run) (r : Run) (s : Seen) : Option Dep := if commit r = true ∧ (comm l s.txn).isSome = true ∧ 0 < s.ts ∧ s.txn ≠ r.txn then some ⟨s.txn, r.txn, 2⟩ else none
def readT (r : Run) (k : List UInt8) : UInt64 := r.seen.foldl (fun ts s => if s.key = k ∧ ts < s.ts then s.ts else ts) 0
def inSpan (k : List UInt8) (p : Span) : Bool := decide (0 ≤ Lib.compareBytes k p.lo) && (decide (p.hi = []) || decide (Lib.compareBytes k p.hi < 0))
def spanned (r : Run) (k : List UInt8) : Bool := r.spans.any (inSpan k)
def next (l : List Run) (k : List UInt8) (ts : UInt64) : Option UInt64 := ((wrote l k).find? fun w => decide (ts < w.ts)).map (·.txn)
def overD (l : List Run) (r : Run) (k : List UInt8) : Option Dep :=
  if spanned r k = true then (match next l k (readT r k) with | some n => if n ≠ r.txn then some ⟨r.txn, n, 3⟩ else none | none => none) else none
def serial (r : Run) : Bool := commit r && decide (r.level = 4)
def depsW (l : List Run) (ks : List (List UInt8)) : List Dep := ks.flatMap fun k => wwL (order l k)
def depsR (l : List Run) : List Dep := l.flatMap fun r => r.seen.filterMap (readD l r)
def depsO (l : List Run) (ks : List (List UInt8)) : List Dep := (l.filter serial).flatMap fun r => ks.filterMap (overD l r)
def deps (l : List Run) (ks : List (List UInt8)) : List Dep := ((depsW l ks ++ depsR l) ++ depsO l ks).foldl addD []
theorem findR_mem {l : List Run} (hd : (l.map (·.txn)).Nodup) {r : Run} (hr : r ∈ l) : findR l r.txn = some r := by
  unfold findR
  induction l with
  | nil => cases hr
  | cons x l ih =>
    simp only [List.map_cons, List.nodup_cons] at hd
    rcases List.mem_cons.1 hr with rfl | hr
    · simp
    · have hne : x.txn ≠ r.txn := fun e => hd.1 (by rw [e]; exact List.mem_map_of_mem hr)
      rw [List.find?_cons, decide_eq_false hne]
      exact ih hd.2 hr
theorem comm_wrote {l : List Run} (hd : (l.map (·.txn)).Nodup) {k : List UInt8} {r : Run} (hr : r ∈ wrote l k) : comm l r.txn = some r := by
  have h1 : r ∈ l.filter fun r => writes r k := (St.isort_perm ltT _).mem_iff.1 hr
  rw [List.mem_filter] at h1
  unfold comm
  rw [findR_mem hd h1.1]
  have : commit r = true := by
    have := h1.2
    unfold writes at this
    rw [Bool.and_eq_true] at this
    exact this.1
  simp [Option.filter, this]
end Go.Ad
