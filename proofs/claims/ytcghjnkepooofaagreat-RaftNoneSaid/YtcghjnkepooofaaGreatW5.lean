/- RaftNone answers true for every input: a node that nobody made does nothing. No condition. -/
import Derived.Test.YtcghjnkepooofaaGreatW4
import Derived.Test.YtcghjnkepooofaaGreatAvP
import Derived.OpenShut
import Derived.JoinedCond
set_option linter.unusedVariables false
set_option linter.unusedSimpArgs false
namespace Go.Proofs.YtcghjnkepooofaaGreat
open Go.Av
open Go.ChangeShapes Go.WideShapes Go.ChangeAt Go.RowKit

theorem laid : laidOutB Tryz.prog = true := by kernel_rfl
theorem own : ownKnob Tryz.prog.godebug = none := by kernel_rfl

theorem rdBytes : Rd Tryz.prog 25 (fun l : List UInt8 => [bys l]) (fun l => l.length ≤ maxLen) :=
  (Rd.slice Tryz.underlying25 (Rd.u8 Tryz.underlying5) (by kernel_rfl) (fun _ => rfl) (by decide)).conv id fun a h => ⟨h.1, rfl⟩
theorem rdNums : Rd Tryz.prog 24 (fun l : List UInt64 => [u64s l]) (fun l => l.length ≤ maxLen) :=
  (Rd.slice Tryz.underlying24 (Rd.u64 Tryz.underlying22) (by kernel_rfl) (fun _ => rfl) (by decide)).conv id fun a h => ⟨h.1, rfl⟩
theorem rdSnap : Rd Tryz.prog 27 Snap.cells (fun _ => True) :=
  (Rd.struct Tryz.underlying27 (.cons (n := 1) rfl (by kernel_rfl) (Rd.u64 Tryz.underlying22) (.cons (n := 1) rfl (by kernel_rfl) (Rd.u64 Tryz.underlying22) (.cons (n := 1) rfl (by kernel_rfl) rdNums (.one (n := 1) rfl (by kernel_rfl) rdBytes)))) (by kernel_rfl)).conv
    (fun p => ⟨p.1, p.2.1, p.2.2.1, p.2.2.2⟩) fun p h => ⟨trivial, rfl⟩
theorem rdEntry : Rd Tryz.prog 81 Entry.cells (fun _ => True) :=
  (Rd.struct Tryz.underlying81 (.cons (n := 1) rfl (by kernel_rfl) (Rd.u64 Tryz.underlying22) (.cons (n := 1) rfl (by kernel_rfl) (Rd.u64 Tryz.underlying22) (.cons (n := 1) rfl (by kernel_rfl) (Rd.i64 Tryz.underlying3) (.one (n := 1) rfl (by kernel_rfl) rdBytes)))) (by kernel_rfl)).conv
    (fun p => ⟨p.1, p.2.1, p.2.2.1, p.2.2.2⟩) fun p h => ⟨trivial, rfl⟩
theorem rdEntries : Rd Tryz.prog 23 (fun l : List Entry => [entries l]) (fun l => l.length ≤ maxLen) :=
  (Rd.slice Tryz.underlying23 rdEntry (by kernel_rfl) (fun _ => rfl) (by decide)).conv id fun a h => ⟨h.1, rfl⟩
theorem rdMsg : Rd Tryz.prog 29 Msg.cells (fun m => m.ents.length ≤ maxLen) :=
  (Rd.struct Tryz.underlying29 (.cons (n := 1) rfl (by kernel_rfl) (Rd.i64 Tryz.underlying3) (.cons (n := 1) rfl (by kernel_rfl) (Rd.u64 Tryz.underlying22) (.cons (n := 1) rfl (by kernel_rfl) (Rd.u64 Tryz.underlying22) (.cons (n := 1) rfl (by kernel_rfl) (Rd.u64 Tryz.underlying22)
    (.cons (n := 1) rfl (by kernel_rfl) (Rd.u64 Tryz.underlying22) (.cons (n := 1) rfl (by kernel_rfl) (Rd.u64 Tryz.underlying22) (.cons (n := 1) rfl (by kernel_rfl) (Rd.u64 Tryz.underlying22) (.cons (n := 1) rfl (by kernel_rfl) (Rd.u64 Tryz.underlying22)
    (.cons (n := 1) rfl (by kernel_rfl) (Rd.bool Tryz.underlying4) (.cons (n := 1) rfl (by kernel_rfl) rdEntries (.one (n := 4) rfl (by kernel_rfl) rdSnap))))))))))) (by kernel_rfl)).conv
    (fun p => ⟨p.1, p.2.1, p.2.2.1, p.2.2.2.1, p.2.2.2.2.1, p.2.2.2.2.2.1, p.2.2.2.2.2.2.1, p.2.2.2.2.2.2.2.1, p.2.2.2.2.2.2.2.2.1, p.2.2.2.2.2.2.2.2.2.1, p.2.2.2.2.2.2.2.2.2.2⟩)
    fun p h => ⟨h.2.2.2.2.2.2.2.2.2.1, rfl⟩
theorem rdInp : Rd Tryz.prog 31 Inp.cells (fun y => y.m.ents.length ≤ maxLen ∧ y.data.length ≤ maxLen ∧ y.members.length ≤ maxLen) :=
  (Rd.struct Tryz.underlying31 (.cons (n := 1) rfl (by kernel_rfl) (Rd.i64 Tryz.underlying3) (.cons (n := 1) rfl (by kernel_rfl) (Rd.u64 Tryz.underlying22) (.cons (n := 14) rfl (by kernel_rfl) rdMsg (.cons (n := 1) rfl (by kernel_rfl) rdBytes (.cons (n := 1) rfl (by kernel_rfl) rdNums (.one (n := 1) rfl (by kernel_rfl) (Rd.u64 Tryz.underlying22))))))) (by kernel_rfl)).conv
    (fun p => ⟨p.1, p.2.1, p.2.2.1, p.2.2.2.1, p.2.2.2.2.1, p.2.2.2.2.2⟩) fun p h => ⟨⟨h.2.2.1, h.2.2.2.1, h.2.2.2.2.1⟩, rfl⟩

set_option maxRecDepth 100000 in
theorem none_contract (H : Type) (enc : TypeId × Value → H) (W : World) (base : Nat) (args : Array Value) (ds gs : List (DataW H)) (before : List MemPlace)
    (hval : ∀ (j : Nat) t v, Tryz.f3.params[j]? = some t → args[j]? = some v → Value.okWide Tryz.prog W .any base t v)
    (hW : DataW.Whole enc Tryz.prog Tryz.f3.params.toList Rows.raftNoneSpec.vars false W args.toList ds gs before) :
    Calls Tryz.prog 3 args W fun e W' => ∃ v, e = .returned v ∧ Rows.raftNoneSpec.post enc Tryz.prog Tryz.f3 false true false false W args v W' := by
  have hW' := hW
  obtain ⟨p, q, hA0, hV, rfl, hfz, hnd⟩ := hW
  have hA : DataW.TrodAll enc Tryz.prog W 0 (fun _ => true) true Tryz.f3.params.toList args.toList ds p := hA0
  rw [Tryz.params3] at hA hval
  obtain ⟨v0, vs0, d0, ds0, p0, q0, hargs, rfl, rfl, h0, r0⟩ := trodAll_cons hA
  obtain ⟨rfl, rfl, rfl⟩ := trodAll_nil r0
  obtain rfl : args = #[v0] := by cases args; simp_all
  obtain ⟨y, hy, x0⟩ := arg_struct Tryz.underlying31 rdInp (hval 0 31 v0 rfl rfl) h0
  simp only [maxLen] at hy
  exact said_true (tb := 4) laid rfl (by kernel_rfl) Tryz.underlying4 (by rw [Tryz.params3]; exact of_decide_eq_true (by kernel_rfl)) rfl hW' (.cons x0 .nil) (none_spec y (by omega) (by omega) (by omega) .empty)

set_option maxRecDepth 100000 in
theorem none_lifted (os : Os) (started : os.Started) (H : Type) (enc : TypeId × Value → H) :
    ReturnsInHanded {} Tryz.checked os 3 .any (Rows.raftNoneSpec.pre6 enc Tryz.prog Tryz.f3 Rows.raftNoneRow.domain false) (Rows.raftNoneSpec.post enc Tryz.prog Tryz.f3 false true false false) := by
  refine returnsInHanded_of_change (C := Tryz.checked) own started (by kernel_rfl) Tryz.func3
    (ChangeSpec.witness6 (enc := enc) (C := Tryz.checked) false ⟨#[], #[.agg #[.int .i64 0, .int .u64 0, .int .i64 0, .int .u64 0, .int .u64 0, .int .u64 0, .int .u64 0, .int .u64 0, .int .u64 0, .int .u64 0, .bool false, .slice none 0 0, .int .u64 0, .int .u64 0, .slice none 0 0, .slice none 0 0, .slice none 0 0, .slice none 0 0, .int .u64 0]], []⟩ 8 (by kernel_rfl) (by kernel_rfl) (by kernel_rfl) (by kernel_rfl)) ?_
  intro W base args ds gs before hval hW _ _
  exact none_contract H enc W base args ds gs before hval hW

theorem raftNone_holds : Rows.RaftNoneSaid :=
  OpenClaim.holds_of_wide 3 Tryz.f3 rfl rfl rfl rfl rfl rfl rfl ⟨rfl, rfl, rfl, rfl, rfl⟩ rfl rfl rfl rfl rfl (by kernel_rfl) Tryz.func3 (by kernel_rfl)
    (of_decide_eq_true (by kernel_rfl)) (by unfold Func.isWrapper; first | (rw [if_pos (by decide +kernel)]; kernel_rfl) | (rw [if_neg (by decide +kernel)]; exact ⟨rfl, rfl⟩))
    (fun os started H enc _ => none_lifted os started H enc)

#print axioms raftNone_holds
end Go.Proofs.YtcghjnkepooofaaGreat
