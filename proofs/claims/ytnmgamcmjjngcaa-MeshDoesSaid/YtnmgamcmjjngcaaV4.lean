import Derived.Test.YtnmgamcmjjngcaaV1
import Derived.Test.YtnmgamcmjjngcaaU10
import Derived.Test.YtnmgamcmjjngcaaU13
import Derived.Test.YtnmgamcmjjngcaaT5
set_option linter.unusedVariables false
set_option linter.unusedSimpArgs false
namespace Go.Proofs.Ytnmgamcmjjngcaa
open Go.Av

/-! ### The plain law -/

def keepB (c : List ((UInt64 × UInt64) × Bool)) (x : Msg) : Bool := !isCut c x.key
def pend (c : List ((UInt64 × UInt64) × Bool)) (l : List Msg) : List Fly := (l.filter (keepB c)).map fun x => ⟨x, 0⟩

theorem fateAt_nil (n : Nat) : fateAt [] n = ⟨1, 0⟩ := by simp [fateAt]

theorem send1_plain (M : Mesh) (hf : M.fates = []) (hn : M.now = 0) (x : Msg) : (M.send1 x).wait = M.wait ++ pend M.cut [x] ∧ (M.send1 x).now = 0 ∧ (M.send1 x).cut = M.cut ∧ (M.send1 x).fates = [] := by
  unfold Mesh.send1
  cases hc : isCut M.cut x.key with
  | true =>
    rw [if_pos rfl]
    refine ⟨?_, hn, rfl, hf⟩
    have : pend M.cut [x] = [] := by simp [pend, keepB, hc]
    rw [this]; simp
  | false =>
    rw [if_neg (by decide)]
    refine ⟨?_, hn, rfl, hf⟩
    have : pend M.cut [x] = [⟨x, 0⟩] := by simp [pend, keepB, hc]
    rw [this]
    show M.wait ++ _ = _
    rw [hf, fateAt_nil, hn]
    rfl

theorem pend_append (c : List ((UInt64 × UInt64) × Bool)) (l m : List Msg) : pend c (l ++ m) = pend c l ++ pend c m := by simp [pend]

theorem send_plain : ∀ (l : List Msg) (M : Mesh), M.fates = [] → M.now = 0 → (M.send l).wait = M.wait ++ pend M.cut l ∧ (M.send l).now = 0 ∧ (M.send l).cut = M.cut
  | [], M, hf, hn => by simp [Mesh.send, pend, hn]
  | x :: l, M, hf, hn => by
    obtain ⟨h1, h2, h3, h4⟩ := send1_plain M hf hn x
    obtain ⟨g1, g2, g3⟩ := send_plain l (M.send1 x) h4 h2
    refine ⟨?_, g2, g3.trans h3⟩
    show ((M.send1 x).send l).wait = _
    rw [g1, h1, h3, List.append_assoc, ← pend_append]; rfl

theorem pick_plain (l : List Fly) (hd : ∀ f ∈ l, f.due = 0) : ∀ i, i ≤ l.length → pickAt 0 l i = if i = 0 then -1 else 0
  | 0, _ => rfl
  | i + 1, hi => by
    have ih := pick_plain l hd i (by omega)
    have h0 : dueAt l i = 0 := by
      have hlt : ((i : Nat) : Int).toNat < l.length := by omega
      simp only [dueAt, List.getElem?_eq_getElem hlt]
      exact hd _ (List.getElem_mem hlt)
    rw [pickAt, ih, h0]
    by_cases hz : i = 0
    · subst hz; simp
    · have h00 : dueAt l 0 = 0 := by
        have hlt : (0 : Int).toNat < l.length := by show 0 < _; omega
        simp only [dueAt, List.getElem?_eq_getElem hlt]
        exact hd _ (List.getElem_mem hlt)
      simp [hz, h00]

theorem pend_due (c : List ((UInt64 × UInt64) × Bool)) (l : List Msg) : ∀ f ∈ pend c l, f.due = 0 := by
  intro f hf
  obtain ⟨x, _, rfl⟩ := List.mem_map.1 hf
  rfl

theorem next_plain (M : Mesh) (hn : M.now = 0) {c : List ((UInt64 × UInt64) × Bool)} {x : Msg} {l : List Msg} (hw : M.wait = ⟨x, 0⟩ :: pend c l) : M.got = x ∧ M.is = true ∧ M.rest.wait = pend c l ∧ M.rest.now = 0 := by
  have hat : M.at = 0 := by
    have := pick_plain M.wait (by rw [hw]; intro f hf; rcases List.mem_cons.1 hf with rfl | h; rfl; exact pend_due c l f h) M.wait.length (Nat.le_refl _)
    show pickAt M.now M.wait M.wait.length = 0
    rw [hn]
    show pickAt 0 M.wait M.wait.length = 0
    rw [this, hw]; rfl
  have hneg : ¬ M.at < 0 := by rw [hat]; omega
  refine ⟨?_, ?_, ?_, ?_⟩
  · rw [Mesh.got, if_neg hneg, hat, hw]; rfl
  · rw [Mesh.is, decide_eq_false hneg]; rfl
  · rw [Mesh.rest, if_neg hneg, hat]; show M.wait.eraseIdx 0 = _; rw [hw]; rfl
  · rw [Mesh.rest, if_neg hneg]; exact hn

theorem next_none (M : Mesh) (hw : M.wait = []) : M.is = false := by
  have hat : M.at = -1 := by show pickAt M.now M.wait M.wait.length = -1; rw [hw]; rfl
  rw [Mesh.is, decide_eq_true (by rw [hat]; omega)]; rfl

/-- Cut off, as the law asks. -/
def same2 (x a : Msg) : Prop := (x.src.toNat = a.src.toNat ∧ x.dst.toNat = a.dst.toNat) ∨ (x.src.toNat = a.dst.toNat ∧ x.dst.toNat = a.src.toNat)

theorem umin_toNat (a b : UInt64) : (min a b).toNat = min a.toNat b.toNat := by
  show (if a ≤ b then a else b).toNat = _
  by_cases h : a ≤ b
  · have := UInt64.le_iff_toNat_le.1 h; rw [if_pos h]; omega
  · have : ¬ a.toNat ≤ b.toNat := fun e => h (UInt64.le_iff_toNat_le.2 e)
    rw [if_neg h]; omega
theorem umax_toNat (a b : UInt64) : (max a b).toNat = max a.toNat b.toNat := by
  show (if a ≤ b then b else a).toNat = _
  by_cases h : a ≤ b
  · have := UInt64.le_iff_toNat_le.1 h; rw [if_pos h]; omega
  · have : ¬ a.toNat ≤ b.toNat := fun e => h (UInt64.le_iff_toNat_le.2 e)
    rw [if_neg h]; omega

theorem key_iff (x : Msg) (a b : UInt64) : x.key = (min a b, max a b) ↔ (x.src.toNat = a.toNat ∧ x.dst.toNat = b.toNat) ∨ (x.src.toNat = b.toNat ∧ x.dst.toNat = a.toNat) := by
  have h1 := umin_toNat x.src x.dst
  have h2 := umax_toNat x.src x.dst
  have h3 := umin_toNat a b
  have h4 := umax_toNat a b
  constructor
  · intro e
    have e1 : min x.src x.dst = min a b := congrArg Prod.fst e
    have e2 : max x.src x.dst = max a b := congrArg Prod.snd e
    rw [e1, h3] at h1
    rw [e2, h4] at h2
    omega
  · intro e
    show (min x.src x.dst, max x.src x.dst) = _
    have e1 : min x.src x.dst = min a b := UInt64.toNat_inj.1 (by rw [h1, h3]; omega)
    have e2 : max x.src x.dst = max a b := UInt64.toNat_inj.1 (by rw [h2, h4]; omega)
    rw [e1, e2]

theorem isCut_one (k : UInt64 × UInt64) (x : Msg) : isCut [(k, true)] x.key = decide (x.key = k) := by
  simp only [isCut, List.find?_cons]
  by_cases h : x.key = k
  · rw [h]; simp
  · have : (k == x.key) = false := by simpa using fun e => h e.symm
    rw [this]; simp [h]

/-- The cuts that the law makes. -/
def cuts (l : List Msg) (cut : Bool) : List ((UInt64 × UInt64) × Bool) := match cut, l with
  | true, a :: _ => [((min a.dst a.src, max a.dst a.src), true)]
  | _, _ => []

theorem keep_cuts (a : Msg) (r : List Msg) (x : Msg) : keepB (cuts (a :: r) true) x = true ↔ ¬ same2 x a := by
  simp only [keepB, cuts, isCut_one, key_iff, same2, Bool.not_eq_true', decide_eq_false_iff_not]
  constructor <;> intro h e <;> apply h <;> omega
theorem keep_free (l : List Msg) (x : Msg) : keepB (cuts l false) x = true := by simp [keepB, cuts, isCut]

end Go.Proofs.Ytnmgamcmjjngcaa
