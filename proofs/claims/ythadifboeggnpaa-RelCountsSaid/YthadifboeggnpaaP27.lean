/-
  Groups have all rows among them, so their counts come to how many rows there are: for every input.
-/
import Derived.Test.YthadifboeggnpaaP20
import Derived.Test.YthadifboeggnpaaP21
import Derived.Test.YthadifboeggnpaaP26
import Derived.OpenShut
import Derived.JoinedCond
set_option linter.unusedVariables false
set_option linter.unusedSimpArgs false
namespace Go.Proofs.Ythadifboeggnpaa
open Go.Av
open Go.ChangeShapes Go.WideShapes Go.ChangeAt Go.RowKit
theorem laid : laidOutB Try.prog = true := by kernel_rfl
theorem own : ownKnob Try.prog.godebug = none := by kernel_rfl
theorem rd31 : Rd Try.prog 31 Val.cells Val.ok :=
  (Rd.struct Try.underlying31 (.cons (n := 1) rfl (by kernel_rfl) (Rd.i64 Try.underlying3) (.cons (n := 1) rfl (by kernel_rfl) (Rd.i64 Try.underlying2) (.one (n := 1) rfl (by kernel_rfl) (Rd.bytes Try.underlying9)))) (by kernel_rfl)).conv
    (fun p => ⟨p.1, p.2.1, p.2.2⟩) fun p h => ⟨⟨h.1, h.2.1⟩, rfl⟩
theorem rd35 : Rd Try.prog 35 (fun r : Row => [rowA r]) (fun r => r.length ≤ 9223372036854775807 ∧ ∀ v ∈ r, v.ok) :=
  (Rd.slice Try.underlying35 rd31 (by kernel_rfl) (fun _ => rfl) (by decide)).conv id fun a h => ⟨⟨h.1, h.2⟩, rfl⟩
theorem rd22 : Rd Try.prog 22 (fun l : List Row => [rowsA l]) (fun l => l.length ≤ 9223372036854775807 ∧ ∀ r ∈ l, r.length ≤ 9223372036854775807 ∧ ∀ v ∈ r, v.ok) :=
  (Rd.slice Try.underlying22 rd35 (by kernel_rfl) (fun _ => rfl) (by decide)).conv id fun a h => ⟨⟨h.1, h.2⟩, rfl⟩
theorem okL_of : ∀ {l : List Ex}, (∀ e ∈ l, e.ok) → Ex.okL l
  | [], _ => trivial
  | x :: l, h => by rw [Ex.okL]; exact ⟨h x (List.mem_cons_self ..), okL_of fun e he => h e (List.mem_cons_of_mem _ he)⟩
theorem cells_len (e : Ex) : e.cells.length = 8 := by
  obtain ⟨op, t, nm, n, v, args⟩ := e
  rw [Ex.cells]; rfl
theorem rd33F : ∀ n, RdF Try.prog 33 Ex.cells Ex.ok n
  | 0 => .zero
  | n + 1 => by
    have ih := rd33F n
    have sl : RdF Try.prog 23 (fun l : List Ex => [exprs l]) (fun l => l.length ≤ maxLen ∧ ∀ e ∈ l, e.ok) n := (RdF.slice Try.underlying23 ih (by kernel_rfl) cells_len (by decide)).mono (Nat.le_succ n)
    exact (RdF.struct Try.underlying33 (.cons (n := 1) rfl (by kernel_rfl) (.of (Rd.i64 Try.underlying3) n) (.cons (n := 1) rfl (by kernel_rfl) (.of (Rd.bytes Try.underlying9) n) (.cons (n := 1) rfl (by kernel_rfl) (.of (Rd.bytes Try.underlying9) n)
      (.cons (n := 1) rfl (by kernel_rfl) (.of (Rd.i64 Try.underlying2) n) (.cons (n := 3) rfl (by kernel_rfl) (.of rd31 n) (.one (n := 1) rfl (by kernel_rfl) sl)))))) (by kernel_rfl)).conv
      (fun p => .mk p.1 p.2.1 p.2.2.1 p.2.2.2.1 p.2.2.2.2.1 p.2.2.2.2.2) fun p h => by
        obtain ⟨h1, h2, h3, h4, h5, h6⟩ := h
        refine ⟨?_, ?_⟩
        · rw [Ex.ok]; exact ⟨h1, h4, h5, h6.1, okL_of h6.2⟩
        · rw [Ex.cells, cellsL_eq]; rfl
theorem rd33 : Rd Try.prog 33 Ex.cells Ex.ok := RdF.rd rd33F
theorem rd23 : Rd Try.prog 23 (fun l : List Ex => [exprs l]) (fun l => l.length ≤ 9223372036854775807 ∧ ∀ e ∈ l, e.ok) :=
  (Rd.slice Try.underlying23 rd33 (by kernel_rfl) cells_len (by decide)).conv id fun a h => ⟨⟨h.1, h.2⟩, rfl⟩
theorem rdwStr : RdW Try.prog 9 (fun l : List UInt8 => [str l]) (fun l => l.length ≤ 140737488355328) :=
  (RdW.str Try.underlying9).conv (fun s => s.data.toList) fun s h => ⟨by rw [Array.length_toList]; exact Nat.le_trans h (by decide), by rw [str_of]⟩
theorem rdw31 : RdW Try.prog 31 Val.cells (fun v => v.ok ∧ v.s.length ≤ 140737488355328) :=
  (RdW.struct Try.underlying31 (.cons (n := 1) rfl (by kernel_rfl) (Rd.i64 Try.underlying3).w (.cons (n := 1) rfl (by kernel_rfl) (Rd.i64 Try.underlying2).w (.one (n := 1) rfl (by kernel_rfl) rdwStr))) (by kernel_rfl)).conv
    (fun p => ⟨p.1, p.2.1, p.2.2⟩) fun p h => ⟨⟨⟨h.1, h.2.1⟩, h.2.2⟩, rfl⟩
theorem rdw33 : RdW Try.prog 33 Ex.cells (fun e => e.ok ∧ e.short) :=
  (RdW.struct Try.underlying33 (.cons (n := 1) rfl (by kernel_rfl) (Rd.i64 Try.underlying3).w (.cons (n := 1) rfl (by kernel_rfl) rdwStr (.cons (n := 1) rfl (by kernel_rfl) rdwStr
      (.cons (n := 1) rfl (by kernel_rfl) (Rd.i64 Try.underlying2).w (.cons (n := 3) rfl (by kernel_rfl) rdw31 (.one (n := 1) rfl (by kernel_rfl) rd23.w)))))) (by kernel_rfl)).conv
      (fun p => .mk p.1 p.2.1 p.2.2.1 p.2.2.2.1 p.2.2.2.2.1 p.2.2.2.2.2) fun p h => by
        obtain ⟨h1, h2, h3, h4, h5, h6⟩ := h
        refine ⟨⟨?_, h2, h3, h5.2⟩, ?_⟩
        · rw [Ex.ok]; exact ⟨h1, h4, h5.1, h6.1, okL_of h6.2⟩
        · rw [Ex.cells, cellsL_eq]; rfl
theorem rdw23 : RdW Try.prog 23 (fun l : List Ex => [exprs l]) (fun l => l.length ≤ 9223372036854775807 ∧ ∀ e ∈ l, e.ok ∧ e.short) :=
  (RdW.slice (by' := Try.prog.bytesOf 33) Try.underlying23 rdw33 (by kernel_rfl) rfl cells_len (by decide)).conv id fun a h => ⟨⟨h.1, h.2.2⟩, rfl⟩
set_option maxRecDepth 100000 in
theorem countsL_contract (H : Type) (enc : TypeId × Value → H) (W : World) (base : Nat) (args : Array Value) (ds gs : List (DataW H)) (before : List MemPlace)
    (hval : ∀ (j : Nat) t v, Try.f3.params[j]? = some t → args[j]? = some v → Value.okWide Try.prog W .any base t v)
    (hW : DataW.Whole enc Try.prog Try.f3.params.toList Rows.relCountsSpec.vars false W args.toList ds gs before)
    (hlight : (DataW.weightsEach Try.prog (Try.f3.params.toList ++ Rows.relCountsSpec.plain.varTypes Try.prog) (ds ++ gs)).all (· ≤ reachBytes) = true) :
    Calls Try.prog 3 args W fun e W' => ∃ v, e = .returned v ∧ Rows.relCountsSpec.post enc Try.prog Try.f3 false true false false W args v W' := by
  have hW' := hW
  obtain ⟨p, q, hA0, hV, rfl, hfz, hnd⟩ := hW
  have hA : DataW.TrodAll enc Try.prog W 0 (fun _ => true) true Try.f3.params.toList args.toList ds p := hA0
  rw [Try.params3] at hA hval
  rw [Try.params3] at hlight
  obtain ⟨v0, vs0, d0, ds0, p0, q0, hargs, rfl, rfl, h0, r0⟩ := trodAll_cons hA
  obtain ⟨v1, vs1, d1, ds1, p1, q1, rfl, rfl, rfl, h1, r1⟩ := trodAll_cons r0
  obtain ⟨rfl, rfl, rfl⟩ := trodAll_nil r1
  obtain rfl : args = #[v0, v1] := by cases args; simp_all
  obtain ⟨l, hl, x0⟩ := arg_one (cells_slice Try.underlying22 (hval 0 22 v0 rfl rfl)) rd22 h0
  obtain ⟨wh, hw, x1⟩ := argW_one (cells_slice Try.underlying23 (hval 1 23 v1 rfl rfl)) rdw23 (light_of_each hlight (i := 1) rfl rfl) h1
  exact said_true (tb := 4) laid rfl (by kernel_rfl) Try.underlying4 (by rw [Try.params3]; exact of_decide_eq_true (by kernel_rfl)) rfl hW' (.cons x0 (.cons x1 .nil)) (relCounts_spec l wh hl.1 hl.2 hw.1 (fun e he => (hw.2 e he).1) (fun e he => (hw.2 e he).2) .empty)
set_option maxRecDepth 100000 in
theorem countsL_lifted (os : Os) (started : os.Started) (H : Type) (enc : TypeId × Value → H) :
    ReturnsInHanded {} Try.checked os 3 .any (Rows.relCountsSpec.pre6 enc Try.prog Try.f3 Rows.relCountsRow.domain false) (Rows.relCountsSpec.post enc Try.prog Try.f3 false true false false) := by
  refine returnsInHanded_of_change_shaped (C := Try.checked) own started (by kernel_rfl) Try.func3
    (ChangeSpec.witness6 (enc := enc) (C := Try.checked) false ⟨#[], #[.slice none 0 0, .slice none 0 0], []⟩ 8 (by kernel_rfl) (by kernel_rfl) (by kernel_rfl) (by kernel_rfl)) ?_
  intro W base args ds gs before hval hW _ hw _ _
  exact countsL_contract H enc W base args ds gs before hval hW hw
theorem relCounts_holds : Rows.RelCountsSaid :=
  OpenClaim.holds_of_wide 3 Try.f3 rfl rfl rfl rfl rfl rfl rfl ⟨rfl, rfl, rfl, rfl, rfl⟩ rfl rfl rfl rfl rfl (by kernel_rfl) Try.func3 (by kernel_rfl)
    (of_decide_eq_true (by kernel_rfl)) (by unfold Func.isWrapper; first | (rw [if_pos (by decide +kernel)]; kernel_rfl) | (rw [if_neg (by decide +kernel)]; exact ⟨rfl, rfl⟩))
    (fun os started H enc _ => countsL_lifted os started H enc)
#print axioms relCounts_holds
end Go.Proofs.Ythadifboeggnpaa
