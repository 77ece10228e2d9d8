/- MeshPlain answers true for every list of messages and every bool: without fates messages come in order, once; between nodes that are cut off none. No condition. -/
import Derived.Test.YtnmgamcmjjngcaaV6
import Derived.Test.YtnmgamcmjjngcaaV2
import Derived.Test.YtnmgamcmjjngcaaAvS
import Derived.OpenShut
import Derived.JoinedCond
set_option linter.unusedVariables false
set_option linter.unusedSimpArgs false
namespace Go.Proofs.Ytnmgamcmjjngcaa
open Go.Av
open Go.ChangeShapes Go.WideShapes Go.ChangeAt Go.RowKit

theorem rdw24 : RdW Try.prog 24 (fun l : List UInt8 => [bys l]) (fun l => l.length ≤ 140737488355328) :=
  (RdW.slice Try.underlying24 (Rd.u8 Try.underlying5).w (by kernel_rfl) (by kernel_rfl : Try.prog.bytesOf 5 = 1) (fun _ => rfl) (by decide)).conv id fun a h => ⟨by have := h.2.1; simp only [reachBytes] at this; simp only [id]; omega, rfl⟩
theorem rdw23 : RdW Try.prog 23 (fun l : List UInt64 => [u64s l]) (fun l => l.length ≤ 17592186044416) :=
  (RdW.slice Try.underlying23 (Rd.u64 Try.underlying22).w (by kernel_rfl) (by kernel_rfl : Try.prog.bytesOf 22 = 8) (fun _ => rfl) (by decide)).conv id fun a h => ⟨by have := h.2.1; simp only [reachBytes] at this; simp only [id]; omega, rfl⟩
theorem rdw26 : RdW Try.prog 26 Snap.cells (fun s => s.members.length ≤ 17592186044416 ∧ s.data.length ≤ 140737488355328) :=
  (RdW.struct Try.underlying26 (.cons (n := 1) rfl (by kernel_rfl) (Rd.u64 Try.underlying22).w (.cons (n := 1) rfl (by kernel_rfl) (Rd.u64 Try.underlying22).w (.cons (n := 1) rfl (by kernel_rfl) rdw23 (.one (n := 1) rfl (by kernel_rfl) rdw24)))) (by kernel_rfl)).conv
    (fun p => ⟨p.1, p.2.1, p.2.2.1, p.2.2.2⟩) fun p h => ⟨h.2.2, rfl⟩
theorem rdw39 : RdW Try.prog 39 Entry.cells (fun e => e.data.length ≤ 140737488355328) :=
  (RdW.struct Try.underlying39 (.cons (n := 1) rfl (by kernel_rfl) (Rd.u64 Try.underlying22).w (.cons (n := 1) rfl (by kernel_rfl) (Rd.u64 Try.underlying22).w (.cons (n := 1) rfl (by kernel_rfl) (Rd.i64 Try.underlying3).w (.one (n := 1) rfl (by kernel_rfl) rdw24)))) (by kernel_rfl)).conv
    (fun p => ⟨p.1, p.2.1, p.2.2.1, p.2.2.2⟩) fun p h => ⟨h.2.2.2, rfl⟩
theorem rdw27 : RdW Try.prog 27 (fun l : List Entry => [entries l]) (fun l => l.length ≤ 2932031007402 ∧ ∀ e ∈ l, e.data.length ≤ 140737488355328) :=
  (RdW.slice Try.underlying27 rdw39 (by kernel_rfl) (by kernel_rfl : Try.prog.bytesOf 39 = 48) (fun _ => rfl) (by decide)).conv id fun a h => ⟨⟨by have := h.2.1; simp only [reachBytes] at this; simp only [id]; omega, h.2.2⟩, rfl⟩
theorem rdw46 : RdW Try.prog 46 Msg.cells Msg.fits :=
  (RdW.struct Try.underlying46 (.cons (n := 1) rfl (by kernel_rfl) (Rd.i64 Try.underlying3).w (.cons (n := 1) rfl (by kernel_rfl) (Rd.u64 Try.underlying22).w (.cons (n := 1) rfl (by kernel_rfl) (Rd.u64 Try.underlying22).w (.cons (n := 1) rfl (by kernel_rfl) (Rd.u64 Try.underlying22).w
    (.cons (n := 1) rfl (by kernel_rfl) (Rd.u64 Try.underlying22).w (.cons (n := 1) rfl (by kernel_rfl) (Rd.u64 Try.underlying22).w (.cons (n := 1) rfl (by kernel_rfl) (Rd.u64 Try.underlying22).w (.cons (n := 1) rfl (by kernel_rfl) (Rd.u64 Try.underlying22).w
    (.cons (n := 1) rfl (by kernel_rfl) (Rd.bool Try.underlying4).w (.cons (n := 1) rfl (by kernel_rfl) rdw27 (.one (n := 4) rfl (by kernel_rfl) rdw26))))))))))) (by kernel_rfl)).conv
    (fun p => ⟨p.1, p.2.1, p.2.2.1, p.2.2.2.1, p.2.2.2.2.1, p.2.2.2.2.2.1, p.2.2.2.2.2.2.1, p.2.2.2.2.2.2.2.1, p.2.2.2.2.2.2.2.2.1, p.2.2.2.2.2.2.2.2.2.1, p.2.2.2.2.2.2.2.2.2.2⟩)
    fun p h => ⟨⟨h.2.2.2.2.2.2.2.2.2.1.1, h.2.2.2.2.2.2.2.2.2.1.2, h.2.2.2.2.2.2.2.2.2.2.1, h.2.2.2.2.2.2.2.2.2.2.2⟩, rfl⟩
theorem rdw41 : RdW Try.prog 41 (fun l : List Msg => [msgs l]) (fun l => l.length ≤ maxLen ∧ ∀ x ∈ l, x.fits) :=
  (RdW.slice (by' := Try.prog.bytesOf 46) Try.underlying41 rdw46 (by kernel_rfl) rfl (fun _ => rfl) (by decide)).conv id fun a h => ⟨⟨h.1, h.2.2⟩, rfl⟩

set_option maxRecDepth 100000 in
theorem plain_contract (H : Type) (enc : TypeId × Value → H) (W : World) (base : Nat) (args : Array Value) (ds gs : List (DataW H)) (before : List MemPlace)
    (hval : ∀ (j : Nat) t v, Try.f4.params[j]? = some t → args[j]? = some v → Value.okWide Try.prog W .any base t v)
    (hW : DataW.Whole enc Try.prog Try.f4.params.toList Rows.meshPlainSpec.vars false W args.toList ds gs before)
    (hlight : (DataW.weightsEach Try.prog (Try.f4.params.toList ++ Rows.meshPlainSpec.plain.varTypes Try.prog) (ds ++ gs)).all (· ≤ reachBytes) = true) :
    Calls Try.prog 4 args W fun e W' => ∃ v, e = .returned v ∧ Rows.meshPlainSpec.post enc Try.prog Try.f4 false true false false W args v W' := by
  have hW' := hW
  obtain ⟨p, q, hA0, hV, rfl, hfz, hnd⟩ := hW
  have hA : DataW.TrodAll enc Try.prog W 0 (fun _ => true) true Try.f4.params.toList args.toList ds p := hA0
  rw [Try.params4] at hA hval
  rw [Try.params4] at hlight
  obtain ⟨v0, vs0, d0, ds0, p0, q0, hargs, rfl, rfl, h0, r0⟩ := trodAll_cons hA
  obtain ⟨v1, vs1, d1, ds1, p1, q1, rfl, rfl, rfl, h1, r1⟩ := trodAll_cons r0
  obtain ⟨rfl, rfl, rfl⟩ := trodAll_nil r1
  obtain rfl : args = #[v0, v1] := by cases args; simp_all
  obtain ⟨l, hl, x0⟩ := argW_one (cells_slice Try.underlying41 (hval 0 41 v0 rfl rfl)) rdw41 (light_of_each hlight (i := 0) rfl rfl) h0
  obtain ⟨b, _, x1⟩ := arg_one (cells_bool Try.underlying4 (hval 1 4 v1 rfl rfl)) (Rd.bool Try.underlying4) h1
  exact said_true (tb := 4) laid rfl (by kernel_rfl) Try.underlying4 (by rw [Try.params4]; exact of_decide_eq_true (by kernel_rfl)) rfl hW' (.cons x0 (.cons x1 .nil)) (plain_spec l (by have := hl.1; simp only [maxLen] at this; omega) hl.2 b .empty)

set_option maxRecDepth 100000 in
theorem plain_lifted (os : Os) (started : os.Started) (H : Type) (enc : TypeId × Value → H) :
    ReturnsInHanded {} Try.checked os 4 .any (Rows.meshPlainSpec.pre6 enc Try.prog Try.f4 Rows.meshPlainRow.domain false) (Rows.meshPlainSpec.post enc Try.prog Try.f4 false true false false) := by
  refine returnsInHanded_of_change_shaped (C := Try.checked) own started (by kernel_rfl) Try.func4
    (ChangeSpec.witness6 (enc := enc) (C := Try.checked) false ⟨#[], #[.slice none 0 0, .bool false], []⟩ 8 (by kernel_rfl) (by kernel_rfl) (by kernel_rfl) (by kernel_rfl)) ?_
  intro W base args ds gs before hval hW _ hw _ _
  exact plain_contract H enc W base args ds gs before hval hW hw

theorem meshPlain_holds : Rows.MeshPlainSaid :=
  OpenClaim.holds_of_wide 4 Try.f4 rfl rfl rfl rfl rfl rfl rfl ⟨rfl, rfl, rfl, rfl, rfl⟩ rfl rfl rfl rfl rfl (by kernel_rfl) Try.func4 (by kernel_rfl)
    (of_decide_eq_true (by kernel_rfl)) (by unfold Func.isWrapper; first | (rw [if_pos (by decide +kernel)]; kernel_rfl) | (rw [if_neg (by decide +kernel)]; exact ⟨rfl, rfl⟩))
    (fun os started H enc _ => plain_lifted os started H enc)

#print axioms meshPlain_holds
end Go.Proofs.Ytnmgamcmjjngcaa
