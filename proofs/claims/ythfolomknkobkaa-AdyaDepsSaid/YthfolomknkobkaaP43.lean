/-
  AdyaDeps answers true for every history
-/
import Derived.Test.YthfolomknkobkaaP42
import Derived.Test.YthfolomknkobkaaP34
import Derived.Test.YthfolomknkobkaaP35
import Derived.OpenShut
import Derived.JoinedCond
set_option linter.unusedVariables false
set_option linter.unusedSimpArgs false
namespace Go.Proofs.Ythfolomknkobkaa
open Go.Av
open Go.ChangeShapes Go.WideShapes Go.ChangeAt Go.RowKit
open Go.Ad (Seen Span Run Dep)
theorem own : ownKnob Try.prog.godebug = none := by kernel_rfl
theorem rdBytes : RdW Try.prog 32 (fun l : List UInt8 => [bys l]) (fun l => l.length ≤ 140737488355328) :=
  (RdW.slice (by' := 1) Try.underlying32 (Rd.u8 Try.underlying5).w (by kernel_rfl) (by kernel_rfl) (fun _ => rfl) (by decide)).conv id fun a h => ⟨Nat.le_trans (by simpa using h.2.1) (by decide), rfl⟩
theorem rdKeys : RdW Try.prog 36 (fun l : List (List UInt8) => [keysA l]) (fun l => ∀ k ∈ l, k.length ≤ 140737488355328) :=
  (RdW.slice (by' := Try.prog.bytesOf 32) Try.underlying36 rdBytes (by kernel_rfl) rfl (fun _ => rfl) (by decide)).conv id fun a h => ⟨h.2.2, rfl⟩
theorem rdSeen : RdW Try.prog 40 seenC (fun _ => True) :=
  (RdW.struct Try.underlying40 (.cons (n := 1) rfl (by kernel_rfl) rdBytes (.cons (n := 1) rfl (by kernel_rfl) (Rd.u64 Try.underlying29).w (.cons (n := 1) rfl (by kernel_rfl) (Rd.u64 Try.underlying29).w (.one (n := 1) rfl (by kernel_rfl) rdKeys)))) (by kernel_rfl)).conv
    (fun p => ⟨p.1, p.2.1, p.2.2.1, p.2.2.2⟩) fun p h => ⟨trivial, rfl⟩
theorem rdSpan : RdW Try.prog 34 spanC (fun p => p.lo.length ≤ 140737488355328 ∧ p.hi.length ≤ 140737488355328) :=
  (RdW.struct Try.underlying34 (.cons (n := 1) rfl (by kernel_rfl) rdBytes (.one (n := 1) rfl (by kernel_rfl) rdBytes)) (by kernel_rfl)).conv
    (fun p => ⟨p.1, p.2⟩) fun p h => ⟨⟨h.1, h.2⟩, rfl⟩
theorem rdSeens : RdW Try.prog 35 (fun l : List Seen => [seenA l]) (fun _ => True) :=
  (RdW.slice (by' := Try.prog.bytesOf 40) Try.underlying35 rdSeen (by kernel_rfl) rfl (fun _ => rfl) (by decide)).conv id fun a h => ⟨trivial, rfl⟩
theorem rdEv : RdW Try.prog 38 evC (fun e => (e.lo.length ≤ 140737488355328 ∧ e.hi.length ≤ 140737488355328) ∧ ∀ k ∈ e.keys, k.length ≤ 140737488355328) :=
  (RdW.struct Try.underlying38 (.cons (n := 1) rfl (by kernel_rfl) (Rd.i64 Try.underlying3).w (.cons (n := 1) rfl (by kernel_rfl) (Rd.u64 Try.underlying29).w (.cons (n := 1) rfl (by kernel_rfl) (Rd.i64 Try.underlying3).w (.cons (n := 1) rfl (by kernel_rfl) (Rd.u64 Try.underlying29).w
    (.cons (n := 2) rfl (by kernel_rfl) rdSpan (.cons (n := 1) rfl (by kernel_rfl) rdSeens (.one (n := 1) rfl (by kernel_rfl) rdKeys))))))) (by kernel_rfl)).conv
    (fun p => ⟨p.1, p.2.1, p.2.2.1, p.2.2.2.1, p.2.2.2.2.1.lo, p.2.2.2.2.1.hi, p.2.2.2.2.2.1, p.2.2.2.2.2.2⟩) fun p h => ⟨⟨h.2.2.2.2.1, h.2.2.2.2.2.2⟩, rfl⟩
theorem rdEvs : RdW Try.prog 22 (fun l : List Ev => [evsA l]) (fun l => l.length ≤ 9223372036854775807 ∧ ∀ e ∈ l, (e.lo.length ≤ 140737488355328 ∧ e.hi.length ≤ 140737488355328) ∧ ∀ k ∈ e.keys, k.length ≤ 140737488355328) :=
  (RdW.slice (by' := Try.prog.bytesOf 38) Try.underlying22 rdEv (by kernel_rfl) rfl (fun _ => rfl) (by decide)).conv id fun a h => ⟨⟨h.1, h.2.2⟩, rfl⟩
set_option maxRecDepth 100000 in
theorem deps_contract (H : Type) (enc : TypeId × Value → H) (W : World) (base : Nat) (args : Array Value) (ds gs : List (DataW H)) (before : List MemPlace)
    (hval : ∀ (j : Nat) t v, Try.f3.params[j]? = some t → args[j]? = some v → Value.okWide Try.prog W .any base t v)
    (hW : DataW.Whole enc Try.prog Try.f3.params.toList Rows.adyaDepsSpec.vars false W args.toList ds gs before)
    (hlight : (DataW.weightsEach Try.prog (Try.f3.params.toList ++ Rows.adyaDepsSpec.plain.varTypes Try.prog) (ds ++ gs)).all (· ≤ reachBytes) = true) :
    Calls Try.prog 3 args W fun e W' => ∃ v, e = .returned v ∧ Rows.adyaDepsSpec.post enc Try.prog Try.f3 false true false false W args v W' := by
  have hW' := hW
  obtain ⟨p, q, hA0, hV, rfl, hfz, hnd⟩ := hW
  have hA : DataW.TrodAll enc Try.prog W 0 (fun _ => true) true Try.f3.params.toList args.toList ds p := hA0
  rw [Try.params3] at hA hval
  rw [Try.params3] at hlight
  obtain ⟨v0, vs0, d0, ds0, p0, q0, hargs, rfl, rfl, h0, r0⟩ := trodAll_cons hA
  obtain ⟨rfl, rfl, rfl⟩ := trodAll_nil r0
  obtain rfl : args = #[v0] := by cases args; simp_all
  obtain ⟨l, hl, x0⟩ := argW_one (cells_slice Try.underlying22 (hval 0 22 v0 rfl rfl)) rdEvs (light_of_each hlight (i := 0) rfl rfl) h0
  exact said_true (tb := 4) laid rfl (by kernel_rfl) Try.underlying4 (by rw [Try.params3]; exact of_decide_eq_true (by kernel_rfl)) rfl hW' (.cons x0 .nil) (adyaDeps_spec l hl.1 (fun e he => (hl.2 e he).1) (fun e he k hk => Nat.le_trans ((hl.2 e he).2 k hk) (by decide)) .empty)
set_option maxRecDepth 100000 in
theorem deps_lifted (os : Os) (started : os.Started) (H : Type) (enc : TypeId × Value → H) :
    ReturnsInHanded {} Try.checked os 3 .any (Rows.adyaDepsSpec.pre6 enc Try.prog Try.f3 Rows.adyaDepsRow.domain false) (Rows.adyaDepsSpec.post enc Try.prog Try.f3 false true false false) := by
  refine returnsInHanded_of_change_shaped (C := Try.checked) own started (by kernel_rfl) Try.func3
    (ChangeSpec.witness6 (enc := enc) (C := Try.checked) false ⟨#[], #[.slice none 0 0], []⟩ 8 (by kernel_rfl) (by kernel_rfl) (by kernel_rfl) (by kernel_rfl)) ?_
  intro W base args ds gs before hval hW _ hw _ _
  exact deps_contract H enc W base args ds gs before hval hW hw
theorem adyaDeps_holds : Rows.AdyaDepsSaid :=
  OpenClaim.holds_of_wide 3 Try.f3 rfl rfl rfl rfl rfl rfl rfl ⟨rfl, rfl, rfl, rfl, rfl⟩ rfl rfl rfl rfl rfl (by kernel_rfl) Try.func3 (by kernel_rfl)
    (of_decide_eq_true (by kernel_rfl)) (by unfold Func.isWrapper; first | (rw [if_pos (by decide +kernel)]; kernel_rfl) | (rw [if_neg (by decide +kernel)]; exact ⟨rfl, rfl⟩))
    (fun os started H enc _ => deps_lifted os started H enc)
#print axioms adyaDeps_holds
end Go.Proofs.Ythfolomknkobkaa
