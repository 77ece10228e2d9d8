/-
  TxnNone answers true for every input: an engine that nobody made does nothing
-/
import Derived.Test.YtpgkpiodekdlnaaGreatP29
import Derived.Test.YtpgkpiodekdlnaaGreatP27
import Derived.Test.YtpgkpiodekdlnaaGreatP28
import Derived.OpenShut
import Derived.JoinedCond
set_option linter.unusedVariables false
set_option linter.unusedSimpArgs false
namespace Go.Proofs.YtpgkpiodekdlnaaGreat
open Go.Av
open Go.ChangeShapes Go.WideShapes Go.ChangeAt Go.RowKit
theorem laid : laidOutB Tryz.prog = true := by kernel_rfl
theorem own : ownKnob Tryz.prog.godebug = none := by kernel_rfl
theorem rdBytes : RdW Tryz.prog 43 (fun l : List UInt8 => [bys l]) (fun l => l.length ≤ 140737488355328) :=
  (RdW.slice (by' := 1) Tryz.underlying43 (Rd.u8 Tryz.underlying5).w (by kernel_rfl) (by kernel_rfl) (fun _ => rfl) (by decide)).conv id fun a h => ⟨Nat.le_trans (by simpa using h.2.1) (by decide), rfl⟩
theorem rdStr : RdW Tryz.prog 9 (fun l : List UInt8 => [str l]) (fun l => l.length ≤ 140737488355328) :=
  (RdW.str Tryz.underlying9).conv (fun s => s.data.toList) fun s h => ⟨by rw [Array.length_toList]; exact Nat.le_trans h (by decide), by rw [str_of]⟩
theorem rdInts : Rd Tryz.prog 25 (fun l : List Int => [idxsV l]) (fun l => l.length ≤ maxLen) :=
  (Rd.slice Tryz.underlying25 (Rd.i64 Tryz.underlying3) (by kernel_rfl) (fun _ => rfl) (by decide)).conv id fun a h => ⟨h.1, rfl⟩
theorem rdWrite : RdW Tryz.prog 72 Write.cells (fun w => w.key.length ≤ 140737488355328 ∧ w.val.length ≤ 140737488355328) :=
  (RdW.struct Tryz.underlying72 (.cons (n := 1) rfl (by kernel_rfl) rdBytes (.cons (n := 1) rfl (by kernel_rfl) (Rd.bool Tryz.underlying4).w (.one (n := 1) rfl (by kernel_rfl) rdBytes))) (by kernel_rfl)).conv
    (fun p => ⟨p.1, p.2.1, p.2.2⟩) fun p h => ⟨⟨h.1, h.2.2⟩, rfl⟩
theorem rdSpan : RdW Tryz.prog 74 Span.cells (fun w => w.lo.length ≤ 140737488355328 ∧ w.hi.length ≤ 140737488355328) :=
  (RdW.struct Tryz.underlying74 (.cons (n := 1) rfl (by kernel_rfl) rdBytes (.one (n := 1) rfl (by kernel_rfl) rdBytes)) (by kernel_rfl)).conv
    (fun p => ⟨p.1, p.2⟩) fun p h => ⟨⟨h.1, h.2⟩, rfl⟩
theorem rdCol : RdW Tryz.prog 113 Col.cells (fun w => w.name.length ≤ 140737488355328) :=
  (RdW.struct Tryz.underlying113 (.cons (n := 1) rfl (by kernel_rfl) rdStr (.cons (n := 1) rfl (by kernel_rfl) (Rd.i64 Tryz.underlying3).w (.one (n := 1) rfl (by kernel_rfl) (Rd.bool Tryz.underlying4).w))) (by kernel_rfl)).conv
    (fun p => ⟨p.1, p.2.1, p.2.2⟩) fun p h => ⟨h.1, rfl⟩
theorem rdWrites : RdW Tryz.prog 23 (fun l : List Write => [writesV l]) (fun l => l.length ≤ maxLen ∧ ∀ w ∈ l, w.key.length ≤ 140737488355328 ∧ w.val.length ≤ 140737488355328) :=
  (RdW.slice (by' := Tryz.prog.bytesOf 72) Tryz.underlying23 rdWrite (by kernel_rfl) rfl (fun _ => rfl) (by decide)).conv id fun a h => ⟨⟨h.1, h.2.2⟩, rfl⟩
theorem rdSpans : RdW Tryz.prog 22 (fun l : List Span => [spansV l]) (fun l => l.length ≤ maxLen ∧ ∀ w ∈ l, w.lo.length ≤ 140737488355328 ∧ w.hi.length ≤ 140737488355328) :=
  (RdW.slice (by' := Tryz.prog.bytesOf 74) Tryz.underlying22 rdSpan (by kernel_rfl) rfl (fun _ => rfl) (by decide)).conv id fun a h => ⟨⟨h.1, h.2.2⟩, rfl⟩
theorem rdCols : RdW Tryz.prog 24 (fun l : List Col => [colsV l]) (fun l => l.length ≤ maxLen ∧ ∀ w ∈ l, w.name.length ≤ 140737488355328) :=
  (RdW.slice (by' := Tryz.prog.bytesOf 113) Tryz.underlying24 rdCol (by kernel_rfl) rfl (fun _ => rfl) (by decide)).conv id fun a h => ⟨⟨h.1, h.2.2⟩, rfl⟩
structure Table.Ok (t : Table) : Prop where
  c : t.cols.length ≤ maxLen
  cb : ∀ c ∈ t.cols, c.name.length ≤ 140737488355328
  tn : t.name.length ≤ 140737488355328
  ti : t.idx.length ≤ maxLen
theorem rdTable : RdW Tryz.prog 27 Table.cells Table.Ok :=
  (RdW.struct Tryz.underlying27 (.cons (n := 1) rfl (by kernel_rfl) (Rd.i64 Tryz.underlying2).w (.cons (n := 1) rfl (by kernel_rfl) rdStr (.cons (n := 1) rfl (by kernel_rfl) rdCols (.cons (n := 1) rfl (by kernel_rfl) (Rd.i64 Tryz.underlying3).w (.one (n := 1) rfl (by kernel_rfl) rdInts.w))))) (by kernel_rfl)).conv
    (fun p => ⟨p.1, p.2.1, p.2.2.1, p.2.2.2.1, p.2.2.2.2⟩) fun p h => ⟨⟨h.2.2.1.1, h.2.2.1.2, h.2.1, h.2.2.2.2⟩, rfl⟩
theorem rdAsk : RdW Tryz.prog 29 Ask.cells Ask.Ok :=
  (RdW.struct Tryz.underlying29 (.cons (n := 1) rfl (by kernel_rfl) (Rd.i64 Tryz.underlying3).w (.cons (n := 1) rfl (by kernel_rfl) (Rd.i64 Tryz.underlying3).w (.cons (n := 1) rfl (by kernel_rfl) rdSpans (.cons (n := 1) rfl (by kernel_rfl) (Rd.bool Tryz.underlying4).w
    (.cons (n := 1) rfl (by kernel_rfl) rdWrites (.cons (n := 1) rfl (by kernel_rfl) rdStr (.one (n := 5) rfl (by kernel_rfl) rdTable))))))) (by kernel_rfl)).conv
    (fun p => ⟨p.1, p.2.1, p.2.2.1, p.2.2.2.1, p.2.2.2.2.1, p.2.2.2.2.2.1, p.2.2.2.2.2.2⟩) fun p h => by
      obtain ⟨_, _, h3, _, h5, h6, h7⟩ := h
      obtain ⟨t1, t2, t3, t4⟩ := h7
      simp only [maxLen] at h3 h5 t1 t4
      exact ⟨⟨h5.1, fun c hc => ⟨Nat.le_trans (h5.2 c hc).1 (by decide), Nat.le_trans (h5.2 c hc).2 (by decide)⟩, h3.1, fun c hc => ⟨Nat.le_trans (h3.2 c hc).1 (by decide), Nat.le_trans (h3.2 c hc).2 (by decide)⟩, Nat.le_trans h6 (by decide), t1, fun c hc => Nat.le_trans (t2 c hc) (by decide), Nat.le_trans t3 (by decide), t4⟩, rfl⟩
set_option maxRecDepth 100000 in
theorem none_contract (H : Type) (enc : TypeId × Value → H) (W : World) (base : Nat) (args : Array Value) (ds gs : List (DataW H)) (before : List MemPlace)
    (hval : ∀ (j : Nat) t v, Tryz.f3.params[j]? = some t → args[j]? = some v → Value.okWide Tryz.prog W .any base t v)
    (hW : DataW.Whole enc Tryz.prog Tryz.f3.params.toList Rows.txnNoneSpec.vars false W args.toList ds gs before)
    (hlight : (DataW.weightsEach Tryz.prog (Tryz.f3.params.toList ++ Rows.txnNoneSpec.plain.varTypes Tryz.prog) (ds ++ gs)).all (· ≤ reachBytes) = true) :
    Calls Tryz.prog 3 args W fun e W' => ∃ v, e = .returned v ∧ Rows.txnNoneSpec.post enc Tryz.prog Tryz.f3 false true false false W args v W' := by
  have hW' := hW
  obtain ⟨p, q, hA0, hV, rfl, hfz, hnd⟩ := hW
  have hA : DataW.TrodAll enc Tryz.prog W 0 (fun _ => true) true Tryz.f3.params.toList args.toList ds p := hA0
  rw [Tryz.params3] at hA hval
  rw [Tryz.params3] at hlight
  obtain ⟨v0, vs0, d0, ds0, p0, q0, hargs, rfl, rfl, h0, r0⟩ := trodAll_cons hA
  obtain ⟨v1, vs1, d1, ds1, p1, q1, rfl, rfl, rfl, h1, r1⟩ := trodAll_cons r0
  obtain ⟨rfl, rfl, rfl⟩ := trodAll_nil r1
  obtain rfl : args = #[v0, v1] := by cases args; simp_all
  obtain ⟨a, ha, x0⟩ := argW_struct Tryz.underlying29 rdAsk (hval 0 29 v0 rfl rfl) (light_of_each hlight (i := 0) rfl rfl) h0
  obtain ⟨i, _, x1⟩ := arg_one (cells_int Tryz.underlying30 (hval 1 30 v1 rfl rfl)) (Rd.u64 Tryz.underlying30) h1
  exact said_true (tb := 4) laid rfl (by kernel_rfl) Tryz.underlying4 (by rw [Tryz.params3]; exact of_decide_eq_true (by kernel_rfl)) rfl hW' (.cons x0 (.cons x1 .nil)) (none_spec a ha i .empty)
set_option maxRecDepth 100000 in
theorem none_lifted (os : Os) (started : os.Started) (H : Type) (enc : TypeId × Value → H) :
    ReturnsInHanded {} Tryz.checked os 3 .any (Rows.txnNoneSpec.pre6 enc Tryz.prog Tryz.f3 Rows.txnNoneRow.domain false) (Rows.txnNoneSpec.post enc Tryz.prog Tryz.f3 false true false false) := by
  refine returnsInHanded_of_change_shaped (C := Tryz.checked) own started (by kernel_rfl) Tryz.func3
    (ChangeSpec.witness6 (enc := enc) (C := Tryz.checked) false ⟨#[], #[.agg #[.int .i64 0, .int .i64 0, .slice none 0 0, .bool false, .slice none 0 0, .string ⟨#[]⟩, .int .i64 0, .string ⟨#[]⟩, .slice none 0 0, .int .i64 0, .slice none 0 0], .int .u64 0], []⟩ 8 (by kernel_rfl) (by kernel_rfl) (by kernel_rfl) (by kernel_rfl)) ?_
  intro W base args ds gs before hval hW _ hw _ _
  exact none_contract H enc W base args ds gs before hval hW hw
theorem txnNone_holds : Rows.TxnNoneSaid :=
  OpenClaim.holds_of_wide 3 Tryz.f3 rfl rfl rfl rfl rfl rfl rfl ⟨rfl, rfl, rfl, rfl, rfl⟩ rfl rfl rfl rfl rfl (by kernel_rfl) Tryz.func3 (by kernel_rfl)
    (of_decide_eq_true (by kernel_rfl)) (by unfold Func.isWrapper; first | (rw [if_pos (by decide +kernel)]; kernel_rfl) | (rw [if_neg (by decide +kernel)]; exact ⟨rfl, rfl⟩))
    (fun os started H enc _ => none_lifted os started H enc)
#print axioms txnNone_holds
end Go.Proofs.YtpgkpiodekdlnaaGreat
