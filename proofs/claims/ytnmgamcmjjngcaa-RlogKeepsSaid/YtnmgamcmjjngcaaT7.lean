import Derived.Test.YtnmgamcmjjngcaaAvP
import Derived.Test.YtnmgamcmjjngcaaT6
import Derived.OpenShut
import Derived.JoinedCond
set_option linter.unusedVariables false
set_option linter.unusedSimpArgs false
namespace Go.Proofs.Ytnmgamcmjjngcaa
open Go.Av
open Go.ChangeShapes Go.WideShapes Go.ChangeAt Go.RowKit

theorem laid : laidOutB Try.prog = true := by kernel_rfl
theorem own : ownKnob Try.prog.godebug = none := by kernel_rfl

theorem rd24 : Rd Try.prog 24 (fun l : List UInt8 => [bys l]) (fun l => l.length ≤ maxLen) :=
  (Rd.slice Try.underlying24 (Rd.u8 Try.underlying5) (by kernel_rfl) (fun _ => rfl) (by decide)).conv id fun a h => ⟨h.1, rfl⟩
theorem rd23 : Rd Try.prog 23 (fun l : List UInt64 => [u64s l]) (fun l => l.length ≤ maxLen) :=
  (Rd.slice Try.underlying23 (Rd.u64 Try.underlying22) (by kernel_rfl) (fun _ => rfl) (by decide)).conv id fun a h => ⟨h.1, rfl⟩
theorem rd26 : Rd Try.prog 26 Snap.cells (fun s => s.members.length ≤ maxLen ∧ s.data.length ≤ maxLen) :=
  (Rd.struct Try.underlying26 (.cons (n := 1) rfl (by kernel_rfl) (Rd.u64 Try.underlying22) (.cons (n := 1) rfl (by kernel_rfl) (Rd.u64 Try.underlying22) (.cons (n := 1) rfl (by kernel_rfl) rd23 (.one (n := 1) rfl (by kernel_rfl) rd24)))) (by kernel_rfl)).conv
    (fun p => ⟨p.1, p.2.1, p.2.2.1, p.2.2.2⟩) fun p h => ⟨h.2.2, rfl⟩
theorem rd39 : Rd Try.prog 39 Entry.cells (fun e => -9223372036854775808 ≤ e.kind ∧ e.kind ≤ 9223372036854775807) :=
  (Rd.struct Try.underlying39 (.cons (n := 1) rfl (by kernel_rfl) (Rd.u64 Try.underlying22) (.cons (n := 1) rfl (by kernel_rfl) (Rd.u64 Try.underlying22) (.cons (n := 1) rfl (by kernel_rfl) (Rd.i64 Try.underlying3) (.one (n := 1) rfl (by kernel_rfl) rd24)))) (by kernel_rfl)).conv
    (fun p => ⟨p.1, p.2.1, p.2.2.1, p.2.2.2⟩) fun p h => ⟨h.2.2.1, rfl⟩
theorem rd27 : Rd Try.prog 27 (fun l : List Entry => [entries l]) (fun l => l.length ≤ maxLen) :=
  (Rd.slice Try.underlying27 rd39 (by kernel_rfl) (fun _ => rfl) (by decide)).conv id fun a h => ⟨h.1, rfl⟩

set_option maxRecDepth 100000 in
theorem keeps_contract (H : Type) (enc : TypeId × Value → H) (W : World) (base : Nat) (args : Array Value) (ds gs : List (DataW H)) (before : List MemPlace)
    (hval : ∀ (j : Nat) t v, Try.f3.params[j]? = some t → args[j]? = some v → Value.okWide Try.prog W .any base t v)
    (hW : DataW.Whole enc Try.prog Try.f3.params.toList Rows.rlogKeepsSpec.vars false W args.toList ds gs before) :
    Calls Try.prog 3 args W fun e W' => ∃ v, e = .returned v ∧ Rows.rlogKeepsSpec.post enc Try.prog Try.f3 false true false false W args v W' := by
  have hW' := hW
  obtain ⟨p, q, hA0, hV, rfl, hfz, hnd⟩ := hW
  have hA : DataW.TrodAll enc Try.prog W 0 (fun _ => true) true Try.f3.params.toList args.toList ds p := hA0
  rw [Try.params3] at hA hval
  obtain ⟨v0, vs0, d0, ds0, p0, q0, hargs, rfl, rfl, h0, r0⟩ := trodAll_cons hA
  obtain ⟨v1, vs1, d1, ds1, p1, q1, rfl, rfl, rfl, h1, r1⟩ := trodAll_cons r0
  obtain ⟨v2, vs2, d2, ds2, p2, q2, rfl, rfl, rfl, h2, r2⟩ := trodAll_cons r1
  obtain ⟨rfl, rfl, rfl⟩ := trodAll_nil r2
  obtain rfl : args = #[v0, v1, v2] := by cases args; simp_all
  obtain ⟨s, _, x0⟩ := arg_struct Try.underlying26 rd26 (hval 0 26 v0 rfl rfl) h0
  obtain ⟨l, hl, x1⟩ := arg_one (cells_slice Try.underlying27 (hval 1 27 v1 rfl rfl)) rd27 h1
  obtain ⟨m, hm, x2⟩ := arg_one (cells_slice Try.underlying27 (hval 2 27 v2 rfl rfl)) rd27 h2
  exact said_true (tb := 4) laid rfl (by kernel_rfl) Try.underlying4 (by rw [Try.params3]; exact of_decide_eq_true (by kernel_rfl)) rfl hW' (.cons x0 (.cons x1 (.cons x2 .nil))) (keeps_spec s l m hl hm .empty)

set_option maxRecDepth 100000 in
theorem keeps_lifted (os : Os) (started : os.Started) (H : Type) (enc : TypeId × Value → H) :
    ReturnsInHanded {} Try.checked os 3 .any (Rows.rlogKeepsSpec.pre6 enc Try.prog Try.f3 Rows.rlogKeepsRow.domain false) (Rows.rlogKeepsSpec.post enc Try.prog Try.f3 false true false false) := by
  refine returnsInHanded_of_change (C := Try.checked) own started (by kernel_rfl) Try.func3
    (ChangeSpec.witness6 (enc := enc) (C := Try.checked) false ⟨#[], #[.agg #[.int .u64 0, .int .u64 0, .slice none 0 0, .slice none 0 0], .slice none 0 0, .slice none 0 0], []⟩ 8 (by kernel_rfl) (by kernel_rfl) (by kernel_rfl) (by kernel_rfl)) ?_
  intro W base args ds gs before hval hW _ _
  exact keeps_contract H enc W base args ds gs before hval hW

theorem rlogKeeps_holds : Rows.RlogKeepsSaid :=
  OpenClaim.holds_of_wide 3 Try.f3 rfl rfl rfl rfl rfl rfl rfl ⟨rfl, rfl, rfl, rfl, rfl⟩ rfl rfl rfl rfl rfl (by kernel_rfl) Try.func3 (by kernel_rfl)
    (of_decide_eq_true (by kernel_rfl)) (by unfold Func.isWrapper; first | (rw [if_pos (by decide +kernel)]; kernel_rfl) | (rw [if_neg (by decide +kernel)]; exact ⟨rfl, rfl⟩))
    (fun os started H enc _ => keeps_lifted os started H enc)

#print axioms rlogKeeps_holds
end Go.Proofs.Ytnmgamcmjjngcaa
