/- RlogDoes answers true for every snapshot and every list of deeds: whatever is done with a log, answers and what it has are what the document says. No condition. -/
import Derived.Test.YtnmgamcmjjngcaaAvP
import Derived.Test.YtnmgamcmjjngcaaY13
import Derived.OpenShut
import Derived.JoinedCond
set_option linter.unusedVariables false
set_option linter.unusedSimpArgs false
namespace Go.Proofs.Ytnmgamcmjjngcaa
open Go.Av
open Go.ChangeShapes Go.WideShapes Go.ChangeAt Go.RowKit

theorem laid : laidOutB Try.prog = true := by kernel_rfl
theorem own : ownKnob Try.prog.godebug = none := by kernel_rfl

theorem rd24 : Rd Try.prog 24 (fun l : List UInt8 => [bys l]) (fun l => l.length ≤ maxLen) :=
  (Rd.slice Try.underlying24 (Rd.u8 Try.underlying5) (by kernel_rfl) (fun _ => rfl) (by decide)).conv id fun a h => ⟨h.1, rfl⟩
theorem rd23 : Rd Try.prog 23 (fun l : List UInt64 => [u64s l]) (fun l => l.length ≤ maxLen) :=
  (Rd.slice Try.underlying23 (Rd.u64 Try.underlying22) (by kernel_rfl) (fun _ => rfl) (by decide)).conv id fun a h => ⟨h.1, rfl⟩
theorem rd26 : Rd Try.prog 26 Snap.cells (fun s => s.members.length ≤ maxLen ∧ s.data.length ≤ maxLen) :=
  (Rd.struct Try.underlying26 (.cons (n := 1) rfl (by kernel_rfl) (Rd.u64 Try.underlying22) (.cons (n := 1) rfl (by kernel_rfl) (Rd.u64 Try.underlying22) (.cons (n := 1) rfl (by kernel_rfl) rd23 (.one (n := 1) rfl (by kernel_rfl) rd24)))) (by kernel_rfl)).conv
    (fun p => ⟨p.1, p.2.1, p.2.2.1, p.2.2.2⟩) fun p h => ⟨h.2.2, rfl⟩
theorem rd39 : Rd Try.prog 39 Entry.cells (fun e => -9223372036854775808 ≤ e.kind ∧ e.kind ≤ 9223372036854775807) :=
  (Rd.struct Try.underlying39 (.cons (n := 1) rfl (by kernel_rfl) (Rd.u64 Try.underlying22) (.cons (n := 1) rfl (by kernel_rfl) (Rd.u64 Try.underlying22) (.cons (n := 1) rfl (by kernel_rfl) (Rd.i64 Try.underlying3) (.one (n := 1) rfl (by kernel_rfl) rd24)))) (by kernel_rfl)).conv
    (fun p => ⟨p.1, p.2.1, p.2.2.1, p.2.2.2⟩) fun p h => ⟨h.2.2.1, rfl⟩
theorem rd27 : Rd Try.prog 27 (fun l : List Entry => [entries l]) (fun l => l.length ≤ maxLen) :=
  (Rd.slice Try.underlying27 rd39 (by kernel_rfl) (fun _ => rfl) (by decide)).conv id fun a h => ⟨h.1, rfl⟩
theorem rd69 : Rd Try.prog 69 Deed8.cells (fun d => d.l.length ≤ maxLen) :=
  (Rd.struct Try.underlying69 (.cons (n := 1) rfl (by kernel_rfl) (Rd.i64 Try.underlying3) (.cons (n := 1) rfl (by kernel_rfl) rd27 (.cons (n := 1) rfl (by kernel_rfl) (Rd.u64 Try.underlying22) (.one (n := 1) rfl (by kernel_rfl) rd24)))) (by kernel_rfl)).conv
    (fun p => ⟨p.1, p.2.1, p.2.2.1, p.2.2.2⟩) fun p h => ⟨h.2.1, rfl⟩
theorem rd65 : Rd Try.prog 65 (fun l : List Deed8 => [deeds8 l]) (fun l => l.length ≤ maxLen ∧ ∀ d ∈ l, d.l.length ≤ maxLen) :=
  (Rd.slice Try.underlying65 rd69 (by kernel_rfl) (fun _ => rfl) (by decide)).conv id fun a h => ⟨h, rfl⟩

set_option maxRecDepth 100000 in
theorem rdoes_contract (H : Type) (enc : TypeId × Value → H) (W : World) (base : Nat) (args : Array Value) (ds gs : List (DataW H)) (before : List MemPlace)
    (hval : ∀ (j : Nat) t v, Try.f7.params[j]? = some t → args[j]? = some v → Value.okWide Try.prog W .any base t v)
    (hW : DataW.Whole enc Try.prog Try.f7.params.toList Rows.rlogDoesSpec.vars false W args.toList ds gs before) :
    Calls Try.prog 7 args W fun e W' => ∃ v, e = .returned v ∧ Rows.rlogDoesSpec.post enc Try.prog Try.f7 false true false false W args v W' := by
  have hW' := hW
  obtain ⟨p, q, hA0, hV, rfl, hfz, hnd⟩ := hW
  have hA : DataW.TrodAll enc Try.prog W 0 (fun _ => true) true Try.f7.params.toList args.toList ds p := hA0
  rw [Try.params7] at hA hval
  obtain ⟨v0, vs0, d0, ds0, p0, q0, hargs, rfl, rfl, h0, r0⟩ := trodAll_cons hA
  obtain ⟨v1, vs1, d1, ds1, p1, q1, rfl, rfl, rfl, h1, r1⟩ := trodAll_cons r0
  obtain ⟨rfl, rfl, rfl⟩ := trodAll_nil r1
  obtain rfl : args = #[v0, v1] := by cases args; simp_all
  obtain ⟨s, _, x0⟩ := arg_struct Try.underlying26 rd26 (hval 0 26 v0 rfl rfl) h0
  obtain ⟨l, hl, x1⟩ := arg_one (cells_slice Try.underlying65 (hval 1 65 v1 rfl rfl)) rd65 h1
  simp only [maxLen] at hl
  exact said_true (tb := 4) laid rfl (by kernel_rfl) Try.underlying4 (by rw [Try.params7]; exact of_decide_eq_true (by kernel_rfl)) rfl hW' (.cons x0 (.cons x1 .nil)) (rdoes_spec s l (by omega) (fun d hd => by have := hl.2 d hd; omega))

set_option maxRecDepth 100000 in
theorem rdoes_lifted (os : Os) (started : os.Started) (H : Type) (enc : TypeId × Value → H) :
    ReturnsInHanded {} Try.checked os 7 .any (Rows.rlogDoesSpec.pre6 enc Try.prog Try.f7 Rows.rlogDoesRow.domain false) (Rows.rlogDoesSpec.post enc Try.prog Try.f7 false true false false) := by
  refine returnsInHanded_of_change (C := Try.checked) own started (by kernel_rfl) Try.func7
    (ChangeSpec.witness6 (enc := enc) (C := Try.checked) false ⟨#[], #[.agg #[.int .u64 0, .int .u64 0, .slice none 0 0, .slice none 0 0], .slice none 0 0], []⟩ 8 (by kernel_rfl) (by kernel_rfl) (by kernel_rfl) (by kernel_rfl)) ?_
  intro W base args ds gs before hval hW _ _
  exact rdoes_contract H enc W base args ds gs before hval hW

theorem rlogDoes_holds : Rows.RlogDoesSaid :=
  OpenClaim.holds_of_wide 7 Try.f7 rfl rfl rfl rfl rfl rfl rfl ⟨rfl, rfl, rfl, rfl, rfl⟩ rfl rfl rfl rfl rfl (by kernel_rfl) Try.func7 (by kernel_rfl)
    (of_decide_eq_true (by kernel_rfl)) (by unfold Func.isWrapper; first | (rw [if_pos (by decide +kernel)]; kernel_rfl) | (rw [if_neg (by decide +kernel)]; exact ⟨rfl, rfl⟩))
    (fun os started H enc _ => rdoes_lifted os started H enc)

#print axioms rlogDoes_holds
end Go.Proofs.Ytnmgamcmjjngcaa
