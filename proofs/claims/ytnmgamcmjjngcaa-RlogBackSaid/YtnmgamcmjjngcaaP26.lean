/-
  A log that is put record by record is replayed as it was, for every input (where its snapshot's members may be).
-/
import Derived.Test.YtnmgamcmjjngcaaP17
import Derived.Test.YtnmgamcmjjngcaaP25
import Derived.OpenShut
import Derived.JoinedCond
set_option linter.unusedVariables false
set_option linter.unusedSimpArgs false
namespace Go.Proofs.Ytnmgamcmjjngcaa
open Go.Av
open Go.ChangeShapes Go.WideShapes Go.ChangeAt Go.RowKit
theorem laid : laidOutB Try.prog = true := by kernel_rfl
theorem own : ownKnob Try.prog.godebug = none := by kernel_rfl
theorem rd24 : Rd Try.prog 24 (fun l : List UInt8 => [bys l]) (fun l => l.length ≤ maxLen) :=
  (Rd.slice Try.underlying24 (Rd.u8 Try.underlying5) (by kernel_rfl) (fun _ => rfl) (by decide)).conv id fun a h => ⟨h.1, rfl⟩
theorem rd23 : Rd Try.prog 23 (fun l : List UInt64 => [u64s l]) (fun l => l.length ≤ maxLen) :=
  (Rd.slice Try.underlying23 (Rd.u64 Try.underlying22) (by kernel_rfl) (fun _ => rfl) (by decide)).conv id fun a h => ⟨h.1, rfl⟩
theorem rd26 : Rd Try.prog 26 Snap.cells (fun s => s.members.length ≤ maxLen ∧ s.data.length ≤ maxLen) :=
  (Rd.struct Try.underlying26 (.cons (n := 1) rfl (by kernel_rfl) (Rd.u64 Try.underlying22) (.cons (n := 1) rfl (by kernel_rfl) (Rd.u64 Try.underlying22) (.cons (n := 1) rfl (by kernel_rfl) rd23 (.one (n := 1) rfl (by kernel_rfl) rd24)))) (by kernel_rfl)).conv
    (fun p => ⟨p.1, p.2.1, p.2.2.1, p.2.2.2⟩) fun p h => ⟨h.2.2, rfl⟩
theorem rd39 : Rd Try.prog 39 Entry.cells (fun e => -9223372036854775808 ≤ e.kind ∧ e.kind ≤ 9223372036854775807) :=
  (Rd.struct Try.underlying39 (.cons (n := 1) rfl (by kernel_rfl) (Rd.u64 Try.underlying22) (.cons (n := 1) rfl (by kernel_rfl) (Rd.u64 Try.underlying22) (.cons (n := 1) rfl (by kernel_rfl) (Rd.i64 Try.underlying3) (.one (n := 1) rfl (by kernel_rfl) rd24)))) (by kernel_rfl)).conv
    (fun p => ⟨p.1, p.2.1, p.2.2.1, p.2.2.2⟩) fun p h => ⟨h.2.2.1, rfl⟩
theorem rdHard : Rd Try.prog 78 (fun p : UInt64 × UInt64 => [enc p.1, enc p.2]) (fun _ => True) :=
  (Rd.struct Try.underlying78 (.cons (n := 1) rfl (by kernel_rfl) (Rd.u64 Try.underlying22) (.one (n := 1) rfl (by kernel_rfl) (Rd.u64 Try.underlying22))) (by kernel_rfl)).conv (fun p => (p.1, p.2)) fun p h => ⟨trivial, rfl⟩
theorem rd27 : Rd Try.prog 27 (fun l : List Entry => [entries l]) (fun l => l.length ≤ maxLen ∧ ∀ e ∈ l, -9223372036854775808 ≤ e.kind ∧ e.kind ≤ 9223372036854775807) :=
  (Rd.slice Try.underlying27 rd39 (by kernel_rfl) (fun _ => rfl) (by decide)).conv id fun a h => ⟨h, rfl⟩
set_option maxRecDepth 100000 in
theorem backL_contract (H : Type) (enc : TypeId × Value → H) (W : World) (base : Nat) (args : Array Value) (ds gs : List (DataW H)) (before : List MemPlace)
    (hval : ∀ (j : Nat) t v, Try.f9.params[j]? = some t → args[j]? = some v → Value.okWide Try.prog W .any base t v)
    (hW : DataW.Whole enc Try.prog Try.f9.params.toList Rows.rlogBackSpec.vars false W args.toList ds gs before) :
    Calls Try.prog 9 args W fun e W' => ∃ v, e = .returned v ∧ Rows.rlogBackSpec.post enc Try.prog Try.f9 false true false false W args v W' := by
  have hW' := hW
  obtain ⟨p, q, hA0, hV, rfl, hfz, hnd⟩ := hW
  have hA : DataW.TrodAll enc Try.prog W 0 (fun _ => true) true Try.f9.params.toList args.toList ds p := hA0
  rw [Try.params9] at hA hval
  obtain ⟨v0, vs0, d0, ds0, p0, q0, hargs, rfl, rfl, h0, r0⟩ := trodAll_cons hA
  obtain ⟨v1, vs1, d1, ds1, p1, q1, rfl, rfl, rfl, h1, r1⟩ := trodAll_cons r0
  obtain ⟨v2, vs2, d2, ds2, p2, q2, rfl, rfl, rfl, h2, r2⟩ := trodAll_cons r1
  obtain ⟨rfl, rfl, rfl⟩ := trodAll_nil r2
  obtain rfl : args = #[v0, v1, v2] := by cases args; simp_all
  obtain ⟨hh, _, x0⟩ := arg_struct Try.underlying78 rdHard (hval 0 78 v0 rfl rfl) h0
  obtain ⟨s, _, x1⟩ := arg_struct Try.underlying26 rd26 (hval 1 26 v1 rfl rfl) h1
  obtain ⟨l, hl, x2⟩ := arg_one (cells_slice Try.underlying27 (hval 2 27 v2 rfl rfl)) rd27 h2
  have hl1 := hl.1
  simp only [maxLen] at hl1
  exact said_true (tb := 4) laid rfl (by kernel_rfl) Try.underlying4 (by rw [Try.params9]; exact of_decide_eq_true (by kernel_rfl)) rfl hW' (.cons x0 (.cons x1 (.cons x2 .nil))) (back_spec hh.1 hh.2 s l (by omega) hl.2 .empty)
set_option maxRecDepth 100000 in
theorem backL_lifted (os : Os) (started : os.Started) (H : Type) (enc : TypeId × Value → H) :
    ReturnsInHanded {} Try.checked os 9 .any (Rows.rlogBackSpec.pre6 enc Try.prog Try.f9 Rows.rlogBackRow.domain false) (Rows.rlogBackSpec.post enc Try.prog Try.f9 false true false false) := by
  refine returnsInHanded_of_change (C := Try.checked) own started (by kernel_rfl) Try.func9
    (ChangeSpec.witness6 (enc := enc) (C := Try.checked) false ⟨#[], #[.agg #[.int .u64 0, .int .u64 0], .agg #[.int .u64 0, .int .u64 0, .slice none 0 0, .slice none 0 0], .slice none 0 0], []⟩ 9 (by kernel_rfl) (by kernel_rfl) (by kernel_rfl) (by kernel_rfl)) ?_
  intro W base args ds gs before hval hW _ _
  exact backL_contract H enc W base args ds gs before hval hW
theorem rlogBack_holds : Rows.RlogBackSaid :=
  OpenClaim.holds_of_wide 9 Try.f9 rfl rfl rfl rfl rfl rfl rfl ⟨rfl, rfl, rfl, rfl, rfl⟩ rfl rfl rfl rfl rfl (by kernel_rfl) Try.func9 (by kernel_rfl)
    (of_decide_eq_true (by kernel_rfl)) (by unfold Func.isWrapper; first | (rw [if_pos (by decide +kernel)]; kernel_rfl) | (rw [if_neg (by decide +kernel)]; exact ⟨rfl, rfl⟩))
    (fun os started H enc _ => backL_lifted os started H enc)
#print axioms rlogBack_holds
end Go.Proofs.Ytnmgamcmjjngcaa
