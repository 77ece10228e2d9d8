/-
  sorting rows only puts them in another order, and none behind a greater one: for every input
-/
import Derived.Test.YthadifboeggnpaaOP21
import Derived.Test.YthadifboeggnpaaOP28
import Derived.OpenShut
import Derived.JoinedCond
set_option linter.unusedVariables false
set_option linter.unusedSimpArgs false
namespace Go.Proofs.Ythadifboeggnpaa
open Go.Av
open Go.ChangeShapes Go.WideShapes Go.ChangeAt Go.RowKit
theorem laid : laidOutB Try.prog = true := by kernel_rfl
theorem own : ownKnob Try.prog.godebug = none := by kernel_rfl
theorem rd31 : Rd Try.prog 31 Val.cells Val.ok :=
  (Rd.struct Try.underlying31 (.cons (n := 1) rfl (by kernel_rfl) (Rd.i64 Try.underlying3) (.cons (n := 1) rfl (by kernel_rfl) (Rd.i64 Try.underlying2) (.one (n := 1) rfl (by kernel_rfl) (Rd.bytes Try.underlying9)))) (by kernel_rfl)).conv
    (fun p => ⟨p.1, p.2.1, p.2.2⟩) fun p h => ⟨⟨h.1, h.2.1⟩, rfl⟩
theorem rd35 : Rd Try.prog 35 (fun r : Row => [rowA r]) (fun r => r.length ≤ 9223372036854775807 ∧ ∀ v ∈ r, v.ok) :=
  (Rd.slice Try.underlying35 rd31 (by kernel_rfl) (fun _ => rfl) (by decide)).conv id fun a h => ⟨⟨h.1, h.2⟩, rfl⟩
theorem rd22 : Rd Try.prog 22 (fun l : List Row => [rowsA l]) (fun l => l.length ≤ 9223372036854775807 ∧ ∀ r ∈ l, r.length ≤ 9223372036854775807 ∧ ∀ v ∈ r, v.ok) :=
  (Rd.slice Try.underlying22 rd35 (by kernel_rfl) (fun _ => rfl) (by decide)).conv id fun a h => ⟨⟨h.1, h.2⟩, rfl⟩
set_option maxRecDepth 100000 in
theorem ordersL_contract (H : Type) (enc : TypeId × Value → H) (W : World) (base : Nat) (args : Array Value) (ds gs : List (DataW H)) (before : List MemPlace)
    (hval : ∀ (j : Nat) t v, Try.f5.params[j]? = some t → args[j]? = some v → Value.okWide Try.prog W .any base t v)
    (hW : DataW.Whole enc Try.prog Try.f5.params.toList Rows.relOrdersSpec.vars false W args.toList ds gs before) :
    Calls Try.prog 5 args W fun e W' => ∃ v, e = .returned v ∧ Rows.relOrdersSpec.post enc Try.prog Try.f5 false true false false W args v W' := by
  have hW' := hW
  obtain ⟨p, q, hA0, hV, rfl, hfz, hnd⟩ := hW
  have hA : DataW.TrodAll enc Try.prog W 0 (fun _ => true) true Try.f5.params.toList args.toList ds p := hA0
  rw [Try.params5] at hA hval
  obtain ⟨v0, vs0, d0, ds0, p0, q0, hargs, rfl, rfl, h0, r0⟩ := trodAll_cons hA
  obtain ⟨v1, vs1, d1, ds1, p1, q1, rfl, rfl, rfl, h1, r1⟩ := trodAll_cons r0
  obtain ⟨rfl, rfl, rfl⟩ := trodAll_nil r1
  obtain rfl : args = #[v0, v1] := by cases args; simp_all
  obtain ⟨l, hl, x0⟩ := arg_one (cells_slice Try.underlying22 (hval 0 22 v0 rfl rfl)) rd22 h0
  obtain ⟨n, hn, x1⟩ := arg_one (cells_int Try.underlying2 (hval 1 2 v1 rfl rfl)) (Rd.i64 Try.underlying2) h1
  exact said_true (tb := 4) laid rfl (by kernel_rfl) Try.underlying4 (by rw [Try.params5]; exact of_decide_eq_true (by kernel_rfl)) rfl hW' (.cons x0 (.cons x1 .nil)) (relOrders_spec l n hl.1 hl.2 hn .empty)
set_option maxRecDepth 100000 in
theorem ordersL_lifted (os : Os) (started : os.Started) (H : Type) (enc : TypeId × Value → H) :
    ReturnsInHanded {} Try.checked os 5 .any (Rows.relOrdersSpec.pre6 enc Try.prog Try.f5 Rows.relOrdersRow.domain false) (Rows.relOrdersSpec.post enc Try.prog Try.f5 false true false false) := by
  refine returnsInHanded_of_change (C := Try.checked) own started (by kernel_rfl) Try.func5
    (ChangeSpec.witness6 (enc := enc) (C := Try.checked) false ⟨#[], #[.slice none 0 0, .int .i64 0], []⟩ 8 (by kernel_rfl) (by kernel_rfl) (by kernel_rfl) (by kernel_rfl)) ?_
  intro W base args ds gs before hval hW _ _
  exact ordersL_contract H enc W base args ds gs before hval hW
theorem relOrders_holds : Rows.RelOrdersSaid :=
  OpenClaim.holds_of_wide 5 Try.f5 rfl rfl rfl rfl rfl rfl rfl ⟨rfl, rfl, rfl, rfl, rfl⟩ rfl rfl rfl rfl rfl (by kernel_rfl) Try.func5 (by kernel_rfl)
    (of_decide_eq_true (by kernel_rfl)) (by unfold Func.isWrapper; first | (rw [if_pos (by decide +kernel)]; kernel_rfl) | (rw [if_neg (by decide +kernel)]; exact ⟨rfl, rfl⟩))
    (fun os started H enc _ => ordersL_lifted os started H enc)
#print axioms relOrders_holds
end Go.Proofs.Ythadifboeggnpaa
