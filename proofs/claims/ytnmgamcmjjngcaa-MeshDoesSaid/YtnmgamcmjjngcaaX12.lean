/- MeshDoes answers true for every list of fates and of deeds: whatever is sent, with any fates, and whoever is cut off, it comes as the document says. No condition. -/
import Derived.Test.YtnmgamcmjjngcaaX11
import Derived.Test.YtnmgamcmjjngcaaV2
import Derived.OpenShut
import Derived.JoinedCond
set_option linter.unusedVariables false
set_option linter.unusedSimpArgs false
namespace Go.Proofs.Ytnmgamcmjjngcaa
open Go.Av
open Go.ChangeShapes Go.WideShapes Go.ChangeAt Go.RowKit

theorem rd100 : Rd Try.prog 100 Fate.cells (fun _ => True) :=
  (Rd.struct Try.underlying100 (.cons (n := 1) rfl (by kernel_rfl) (Rd.i64 Try.underlying3) (.one (n := 1) rfl (by kernel_rfl) (Rd.i64 Try.underlying3))) (by kernel_rfl)).conv
    (fun p => ⟨p.1, p.2⟩) fun p h => ⟨trivial, rfl⟩
theorem rd52 : Rd Try.prog 52 (fun l : List Fate => [fates l]) (fun l => l.length ≤ maxLen) :=
  (Rd.slice Try.underlying52 rd100 (by kernel_rfl) (fun _ => rfl) (by decide)).conv id fun a h => ⟨h.1, rfl⟩
theorem rd60 : Rd Try.prog 60 Deed.cells (fun d => d.m.ents.length ≤ maxLen) :=
  (Rd.struct Try.underlying60 (.cons (n := 1) rfl (by kernel_rfl) (Rd.i64 Try.underlying3) (.one (n := 14) rfl (by kernel_rfl) rd46)) (by kernel_rfl)).conv
    (fun p => ⟨p.1, p.2⟩) fun p h => ⟨h.2.2.2, rfl⟩
theorem rd53 : Rd Try.prog 53 (fun l : List Deed => [deeds l]) (fun l => l.length ≤ maxLen ∧ ∀ d ∈ l, d.m.ents.length ≤ maxLen) :=
  (Rd.slice Try.underlying53 rd60 (by kernel_rfl) (fun _ => rfl) (by decide)).conv id fun a h => ⟨h, rfl⟩

set_option maxRecDepth 100000 in
theorem does_contract (H : Type) (enc : TypeId × Value → H) (W : World) (base : Nat) (args : Array Value) (ds gs : List (DataW H)) (before : List MemPlace)
    (hval : ∀ (j : Nat) t v, Try.f5.params[j]? = some t → args[j]? = some v → Value.okWide Try.prog W .any base t v)
    (hW : DataW.Whole enc Try.prog Try.f5.params.toList Rows.meshDoesSpec.vars false W args.toList ds gs before) :
    Calls Try.prog 5 args W fun e W' => ∃ v, e = .returned v ∧ Rows.meshDoesSpec.post enc Try.prog Try.f5 false true false false W args v W' := by
  have hW' := hW
  obtain ⟨p, q, hA0, hV, rfl, hfz, hnd⟩ := hW
  have hA : DataW.TrodAll enc Try.prog W 0 (fun _ => true) true Try.f5.params.toList args.toList ds p := hA0
  rw [Try.params5] at hA hval
  obtain ⟨v0, vs0, d0, ds0, p0, q0, hargs, rfl, rfl, h0, r0⟩ := trodAll_cons hA
  obtain ⟨v1, vs1, d1, ds1, p1, q1, rfl, rfl, rfl, h1, r1⟩ := trodAll_cons r0
  obtain ⟨rfl, rfl, rfl⟩ := trodAll_nil r1
  obtain rfl : args = #[v0, v1] := by cases args; simp_all
  obtain ⟨fl, hfl, x0⟩ := arg_one (cells_slice Try.underlying52 (hval 0 52 v0 rfl rfl)) rd52 h0
  obtain ⟨l, hl, x1⟩ := arg_one (cells_slice Try.underlying53 (hval 1 53 v1 rfl rfl)) rd53 h1
  simp only [maxLen] at hfl hl
  exact said_true (tb := 4) laid rfl (by kernel_rfl) Try.underlying4 (by rw [Try.params5]; exact of_decide_eq_true (by kernel_rfl)) rfl hW' (.cons x0 (.cons x1 .nil)) (does_spec fl l (by omega) (by omega) (fun d hd => by have := hl.2 d hd; omega))

set_option maxRecDepth 100000 in
theorem does_lifted (os : Os) (started : os.Started) (H : Type) (enc : TypeId × Value → H) :
    ReturnsInHanded {} Try.checked os 5 .any (Rows.meshDoesSpec.pre6 enc Try.prog Try.f5 Rows.meshDoesRow.domain false) (Rows.meshDoesSpec.post enc Try.prog Try.f5 false true false false) := by
  refine returnsInHanded_of_change (C := Try.checked) own started (by kernel_rfl) Try.func5
    (ChangeSpec.witness6 (enc := enc) (C := Try.checked) false ⟨#[], #[.slice none 0 0, .slice none 0 0], []⟩ 8 (by kernel_rfl) (by kernel_rfl) (by kernel_rfl) (by kernel_rfl)) ?_
  intro W base args ds gs before hval hW _ _
  exact does_contract H enc W base args ds gs before hval hW

theorem meshDoes_holds : Rows.MeshDoesSaid :=
  OpenClaim.holds_of_wide 5 Try.f5 rfl rfl rfl rfl rfl rfl rfl ⟨rfl, rfl, rfl, rfl, rfl⟩ rfl rfl rfl rfl rfl (by kernel_rfl) Try.func5 (by kernel_rfl)
    (of_decide_eq_true (by kernel_rfl)) (by unfold Func.isWrapper; first | (rw [if_pos (by decide +kernel)]; kernel_rfl) | (rw [if_neg (by decide +kernel)]; exact ⟨rfl, rfl⟩))
    (fun os started H enc _ => does_lifted os started H enc)

#print axioms meshDoes_holds
end Go.Proofs.Ytnmgamcmjjngcaa
