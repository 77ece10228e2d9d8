/- LexTokens answers true for every text and every number: the tokens that the program tells, all at once and one by one and left early, are the ones that the document says. No condition. -/
import Derived.Test.YtcjcmegkfplnkaaAvP
import Derived.Test.YtcjcmegkfplnkaaL17
import Derived.OpenShut
import Derived.JoinedCond
set_option linter.unusedVariables false
set_option linter.unusedSimpArgs false
namespace Go.Proofs.Ytcjcmegkfplnkaa
open Go.Av
open Go.ChangeShapes Go.WideShapes Go.ChangeAt Go.RowKit

theorem laid : laidOutB Try.prog = true := by kernel_rfl
theorem own : ownKnob Try.prog.godebug = none := by kernel_rfl

theorem rdS : Rd Try.prog 9 (fun s : List UInt8 => [str s]) (fun s => s.length ≤ maxLen) :=
  (Rd.str Try.underlying9).conv (fun s => s.data.toList) fun s h => ⟨(Array.length_toList (xs := s.data)) ▸ h, congrArg (fun x => [x]) (str_of s)⟩

set_option maxRecDepth 100000 in
theorem tokens_contract (H : Type) (enc : TypeId × Value → H) (W : World) (base : Nat) (args : Array Value) (ds gs : List (DataW H)) (before : List MemPlace)
    (hval : ∀ (j : Nat) t v, Try.f3.params[j]? = some t → args[j]? = some v → Value.okWide Try.prog W .any base t v)
    (hW : DataW.Whole enc Try.prog Try.f3.params.toList Rows.lexTokensSpec.vars false W args.toList ds gs before) :
    Calls Try.prog 3 args W fun e W' => ∃ v, e = .returned v ∧ Rows.lexTokensSpec.post enc Try.prog Try.f3 false true false false W args v W' := by
  have hW' := hW
  obtain ⟨p, q, hA0, hV, rfl, hfz, hnd⟩ := hW
  have hA : DataW.TrodAll enc Try.prog W 0 (fun _ => true) true Try.f3.params.toList args.toList ds p := hA0
  rw [Try.params3] at hA hval
  obtain ⟨v0, vs0, d0, ds0, p0, q0, hargs, rfl, rfl, h0, r0⟩ := trodAll_cons hA
  obtain ⟨v1, vs1, d1, ds1, p1, q1, rfl, rfl, rfl, h1, r1⟩ := trodAll_cons r0
  obtain ⟨rfl, rfl, rfl⟩ := trodAll_nil r1
  obtain rfl : args = #[v0, v1] := by cases args; simp_all
  obtain ⟨s, _, x0⟩ := arg_one (cells_string Try.underlying9 (hval 0 9 v0 rfl rfl)) rdS h0
  obtain ⟨n, hn, x1⟩ := arg_one (cells_int Try.underlying3 (hval 1 3 v1 rfl rfl)) (Rd.i64 Try.underlying3) h1
  exact said_true (tb := 4) laid rfl (by kernel_rfl) Try.underlying4 (by rw [Try.params3]; exact of_decide_eq_true (by kernel_rfl)) rfl hW' (.cons x0 (.cons x1 .nil)) (lexTokens_spec s n hn .empty)

set_option maxRecDepth 100000 in
theorem tokens_lifted (os : Os) (started : os.Started) (H : Type) (enc : TypeId × Value → H) :
    ReturnsInHanded {} Try.checked os 3 .any (Rows.lexTokensSpec.pre6 enc Try.prog Try.f3 Rows.lexTokensRow.domain false) (Rows.lexTokensSpec.post enc Try.prog Try.f3 false true false false) := by
  refine returnsInHanded_of_change (C := Try.checked) own started (by kernel_rfl) Try.func3
    (ChangeSpec.witness6 (enc := enc) (C := Try.checked) false ⟨#[], #[.string ⟨#[]⟩, .int .i64 0], []⟩ 8 (by kernel_rfl) (by kernel_rfl) (by kernel_rfl) (by kernel_rfl)) ?_
  intro W base args ds gs before hval hW _ _
  exact tokens_contract H enc W base args ds gs before hval hW

theorem lexTokens_holds : Rows.LexTokensSaid :=
  OpenClaim.holds_of_wide 3 Try.f3 rfl rfl rfl rfl rfl rfl rfl ⟨rfl, rfl, rfl, rfl, rfl⟩ rfl rfl rfl rfl rfl (by kernel_rfl) Try.func3 (by kernel_rfl)
    (of_decide_eq_true (by kernel_rfl)) (by unfold Func.isWrapper; first | (rw [if_pos (by decide +kernel)]; kernel_rfl) | (rw [if_neg (by decide +kernel)]; exact ⟨rfl, rfl⟩))
    (fun os started H enc _ => tokens_lifted os started H enc)

#print axioms lexTokens_holds
end Go.Proofs.Ytcjcmegkfplnkaa
