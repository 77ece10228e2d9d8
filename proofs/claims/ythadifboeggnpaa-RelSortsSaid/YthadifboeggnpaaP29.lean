/-
  the law RelSorts of plenum/plenumlaw24 answers true for all arguments
-/
import Derived.Test.YthadifboeggnpaaP21
import Derived.Test.YthadifboeggnpaaP28
import Derived.OpenShut
import Derived.JoinedCond
set_option linter.unusedVariables false
set_option linter.unusedSimpArgs false
namespace Go.Proofs.Ythadifboeggnpaa
open Go.Av
open Go.ChangeShapes Go.WideShapes Go.ChangeAt Go.RowKit
theorem laid : laidOutB Try.prog = true := by kernel_rfl
theorem own : ownKnob Try.prog.godebug = none := by kernel_rfl
theorem rd31 : Rd Try.prog 31 Val.cells Val.ok :=
  (Rd.struct Try.underlying31 (.cons (n := 1) rfl (by kernel_rfl) (Rd.i64 Try.underlying3) (.cons (n := 1) rfl (by kernel_rfl) (Rd.i64 Try.underlying2) (.one (n := 1) rfl (by kernel_rfl) (Rd.bytes Try.underlying9)))) (by kernel_rfl)).conv
    (fun p => ⟨p.1, p.2.1, p.2.2⟩) fun p h => ⟨⟨h.1, h.2.1⟩, rfl⟩
theorem rd35 : Rd Try.prog 35 (fun r : Row => [rowA r]) (fun r => r.length ≤ 9223372036854775807 ∧ ∀ v ∈ r, v.ok) :=
  (Rd.slice Try.underlying35 rd31 (by kernel_rfl) (fun _ => rfl) (by decide)).conv id fun a h => ⟨⟨h.1, h.2⟩, rfl⟩
theorem rd22 : Rd Try.prog 22 (fun l : List Row => [rowsA l]) (fun l => l.length ≤ 9223372036854775807 ∧ ∀ r ∈ l, r.length ≤ 9223372036854775807 ∧ ∀ v ∈ r, v.ok) :=
  (Rd.slice Try.underlying22 rd35 (by kernel_rfl) (fun _ => rfl) (by decide)).conv id fun a h => ⟨⟨h.1, h.2⟩, rfl⟩
theorem rd41 : Rd Try.prog 41 (fun p : Int × Bool => [i64 p.1, bl p.2]) (fun p => Fits p.1) :=
  (Rd.struct Try.underlying41 (.cons (n := 1) rfl (by kernel_rfl) (Rd.i64 Try.underlying2) (.one (n := 1) rfl (by kernel_rfl) (Rd.bool Try.underlying4))) (by kernel_rfl)).conv
    (fun p => p) fun p h => ⟨h.1, rfl⟩
theorem rd42 : Rd Try.prog 42 (fun l : List (Int × Bool) => [bysA l]) (fun l => l.length ≤ 9223372036854775807 ∧ ∀ p ∈ l, Fits p.1) :=
  (Rd.slice Try.underlying42 rd41 (by kernel_rfl) (fun _ => rfl) (by decide)).conv id fun a h => ⟨⟨h.1, h.2⟩, rfl⟩
set_option maxRecDepth 100000 in
theorem sortsL_contract (H : Type) (enc : TypeId × Value → H) (W : World) (base : Nat) (args : Array Value) (ds gs : List (DataW H)) (before : List MemPlace)
    (hval : ∀ (j : Nat) t v, Try.f6.params[j]? = some t → args[j]? = some v → Value.okWide Try.prog W .any base t v)
    (hW : DataW.Whole enc Try.prog Try.f6.params.toList Rows.relSortsSpec.vars false W args.toList ds gs before) :
    Calls Try.prog 6 args W fun e W' => ∃ v, e = .returned v ∧ Rows.relSortsSpec.post enc Try.prog Try.f6 false true false false W args v W' := by
  have hW' := hW
  obtain ⟨p, q, hA0, hV, rfl, hfz, hnd⟩ := hW
  have hA : DataW.TrodAll enc Try.prog W 0 (fun _ => true) true Try.f6.params.toList args.toList ds p := hA0
  rw [Try.params6] at hA hval
  obtain ⟨v0, vs0, d0, ds0, p0, q0, hargs, rfl, rfl, h0, r0⟩ := trodAll_cons hA
  obtain ⟨v1, vs1, d1, ds1, p1, q1, rfl, rfl, rfl, h1, r1⟩ := trodAll_cons r0
  obtain ⟨v2, vs2, d2, ds2, p2, q2, rfl, rfl, rfl, h2, r2⟩ := trodAll_cons r1
  obtain ⟨rfl, rfl, rfl⟩ := trodAll_nil r2
  obtain rfl : args = #[v0, v1, v2] := by cases args; simp_all
  obtain ⟨l, hl, x0⟩ := arg_one (cells_slice Try.underlying22 (hval 0 22 v0 rfl rfl)) rd22 h0
  obtain ⟨by', hw, x1⟩ := arg_one (cells_slice Try.underlying42 (hval 1 42 v1 rfl rfl)) rd42 h1
  obtain ⟨n, hn, x2⟩ := arg_one (cells_int Try.underlying2 (hval 2 2 v2 rfl rfl)) (Rd.i64 Try.underlying2) h2
  exact said_true (tb := 4) laid rfl (by kernel_rfl) Try.underlying4 (by rw [Try.params6]; exact of_decide_eq_true (by kernel_rfl)) rfl hW' (.cons x0 (.cons x1 (.cons x2 .nil))) (relSorts_spec l by' n hl.1 hl.2 hw.1 hw.2 .empty)
set_option maxRecDepth 100000 in
theorem sortsL_lifted (os : Os) (started : os.Started) (H : Type) (enc : TypeId × Value → H) :
    ReturnsInHanded {} Try.checked os 6 .any (Rows.relSortsSpec.pre6 enc Try.prog Try.f6 Rows.relSortsRow.domain false) (Rows.relSortsSpec.post enc Try.prog Try.f6 false true false false) := by
  refine returnsInHanded_of_change (C := Try.checked) own started (by kernel_rfl) Try.func6
    (ChangeSpec.witness6 (enc := enc) (C := Try.checked) false ⟨#[], #[.slice none 0 0, .slice none 0 0, .int .i64 0], []⟩ 8 (by kernel_rfl) (by kernel_rfl) (by kernel_rfl) (by kernel_rfl)) ?_
  intro W base args ds gs before hval hW _ _
  exact sortsL_contract H enc W base args ds gs before hval hW
theorem relSorts_holds : Rows.RelSortsSaid :=
  OpenClaim.holds_of_wide 6 Try.f6 rfl rfl rfl rfl rfl rfl rfl ⟨rfl, rfl, rfl, rfl, rfl⟩ rfl rfl rfl rfl rfl (by kernel_rfl) Try.func6 (by kernel_rfl)
    (of_decide_eq_true (by kernel_rfl)) (by unfold Func.isWrapper; first | (rw [if_pos (by decide +kernel)]; kernel_rfl) | (rw [if_neg (by decide +kernel)]; exact ⟨rfl, rfl⟩))
    (fun os started H enc _ => sortsL_lifted os started H enc)
#print axioms relSorts_holds
end Go.Proofs.Ythadifboeggnpaa
