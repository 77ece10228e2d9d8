/- LexPuts answers true for every list of tokens: the text that the program puts is the one that the document says. No condition. -/
import Derived.Test.YtcjcmegkfplnkaaAvP
import Derived.Test.YtcjcmegkfplnkaaL25
import Derived.OpenShut
import Derived.JoinedCond
set_option linter.unusedVariables false
set_option linter.unusedSimpArgs false
namespace Go.Proofs.Ytcjcmegkfplnkaa
open Go.Av
open Go.ChangeShapes Go.WideShapes Go.ChangeAt Go.RowKit

theorem laid : laidOutB Try.prog = true := by kernel_rfl
theorem own : ownKnob Try.prog.godebug = none := by kernel_rfl

theorem rdS : Rd Try.prog 9 (fun s : List UInt8 => [str s]) (fun s => s.length ≤ maxLen) :=
  (Rd.str Try.underlying9).conv (fun s => s.data.toList) fun s h => ⟨(Array.length_toList (xs := s.data)) ▸ h, congrArg (fun x => [x]) (str_of s)⟩

theorem rdI : Rd Try.prog 3 (fun n : Int => [i64 n]) Fits := (Rd.i64 Try.underlying3).conv id fun n h => ⟨h, rfl⟩
theorem rdL : Rd Try.prog 2 (fun n : Int => [i64 n]) Fits := (Rd.i64 Try.underlying2).conv id fun n h => ⟨h, rfl⟩
theorem rdTok : Rd Try.prog 34 Tok.cells (fun t => Fits t.n) :=
  (Rd.struct Try.underlying34 (.cons (n := 1) rfl (by kernel_rfl) rdI (.cons (n := 1) rfl (by kernel_rfl) rdS (.cons (n := 1) rfl (by kernel_rfl) rdL (.one (n := 1) rfl (by kernel_rfl) rdI)))) (by kernel_rfl)).conv
    (fun p => ⟨p.1, p.2.1, p.2.2.1, p.2.2.2⟩) fun p h => ⟨h.2.2.1, rfl⟩
theorem rdT : Rd Try.prog 23 (fun l : List Tok => [toksA l .ro]) (fun l => l.length ≤ maxLen ∧ ∀ t ∈ l, Fits t.n) :=
  (Rd.slice Try.underlying23 rdTok (by kernel_rfl) (fun _ => rfl) (by decide)).conv id fun a h => ⟨h, rfl⟩

set_option maxRecDepth 100000 in
theorem puts_contract (H : Type) (enc : TypeId × Value → H) (W : World) (base : Nat) (args : Array Value) (ds gs : List (DataW H)) (before : List MemPlace)
    (hval : ∀ (j : Nat) t v, Try.f4.params[j]? = some t → args[j]? = some v → Value.okWide Try.prog W .any base t v)
    (hW : DataW.Whole enc Try.prog Try.f4.params.toList Rows.lexPutsSpec.vars false W args.toList ds gs before) :
    Calls Try.prog 4 args W fun e W' => ∃ v, e = .returned v ∧ Rows.lexPutsSpec.post enc Try.prog Try.f4 false true false false W args v W' := by
  have hW' := hW
  obtain ⟨p, q, hA0, hV, rfl, hfz, hnd⟩ := hW
  have hA : DataW.TrodAll enc Try.prog W 0 (fun _ => true) true Try.f4.params.toList args.toList ds p := hA0
  rw [Try.params4] at hA hval
  obtain ⟨v0, vs0, d0, ds0, p0, q0, hargs, rfl, rfl, h0, r0⟩ := trodAll_cons hA
  obtain ⟨rfl, rfl, rfl⟩ := trodAll_nil r0
  obtain rfl : args = #[v0] := by cases args; simp_all
  obtain ⟨l, hl, x0⟩ := arg_one (cells_slice Try.underlying23 (hval 0 23 v0 rfl rfl)) rdT h0
  exact said_true (tb := 4) laid rfl (by kernel_rfl) Try.underlying4 (by rw [Try.params4]; exact of_decide_eq_true (by kernel_rfl)) rfl hW' (.cons x0 .nil) (lexPuts_spec l (fun t ht => hl.2 t ht) .empty hl.1)

set_option maxRecDepth 100000 in
theorem puts_lifted (os : Os) (started : os.Started) (H : Type) (enc : TypeId × Value → H) :
    ReturnsInHanded {} Try.checked os 4 .any (Rows.lexPutsSpec.pre6 enc Try.prog Try.f4 Rows.lexPutsRow.domain false) (Rows.lexPutsSpec.post enc Try.prog Try.f4 false true false false) := by
  refine returnsInHanded_of_change (C := Try.checked) own started (by kernel_rfl) Try.func4
    (ChangeSpec.witness6 (enc := enc) (C := Try.checked) false ⟨#[], #[.slice none 0 0], []⟩ 8 (by kernel_rfl) (by kernel_rfl) (by kernel_rfl) (by kernel_rfl)) ?_
  intro W base args ds gs before hval hW _ _
  exact puts_contract H enc W base args ds gs before hval hW

theorem lexPuts_holds : Rows.LexPutsSaid :=
  OpenClaim.holds_of_wide 4 Try.f4 rfl rfl rfl rfl rfl rfl rfl ⟨rfl, rfl, rfl, rfl, rfl⟩ rfl rfl rfl rfl rfl (by kernel_rfl) Try.func4 (by kernel_rfl)
    (of_decide_eq_true (by kernel_rfl)) (by unfold Func.isWrapper; first | (rw [if_pos (by decide +kernel)]; kernel_rfl) | (rw [if_neg (by decide +kernel)]; exact ⟨rfl, rfl⟩))
    (fun os started H enc _ => puts_lifted os started H enc)

#print axioms lexPuts_holds
end Go.Proofs.Ytcjcmegkfplnkaa
