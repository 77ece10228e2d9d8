import Derived.Test.YtnmgamcmjjngcaaAvP
import Derived.Test.YtnmgamcmjjngcaaU1
set_option linter.unusedVariables false
set_option linter.unusedSimpArgs false
namespace Go.Proofs.Ytnmgamcmjjngcaa
open Go.Av
open Go.ChangeShapes Go.WideShapes Go.ChangeAt Go.RowKit

theorem laid : laidOutB Try.prog = true := by kernel_rfl
theorem own : ownKnob Try.prog.godebug = none := by kernel_rfl

theorem rd24 : Rd Try.prog 24 (fun l : List UInt8 => [bys l]) (fun l => l.length ≤ maxLen) :=
  (Rd.slice Try.underlying24 (Rd.u8 Try.underlying5) (by kernel_rfl) (fun _ => rfl) (by decide)).conv id fun a h => ⟨h.1, rfl⟩
theorem rd23 : Rd Try.prog 23 (fun l : List UInt64 => [u64s l]) (fun l => l.length ≤ maxLen) :=
  (Rd.slice Try.underlying23 (Rd.u64 Try.underlying22) (by kernel_rfl) (fun _ => rfl) (by decide)).conv id fun a h => ⟨h.1, rfl⟩
theorem rd26 : Rd Try.prog 26 Snap.cells (fun s => s.members.length ≤ maxLen ∧ s.data.length ≤ maxLen) :=
  (Rd.struct Try.underlying26 (.cons (n := 1) rfl (by kernel_rfl) (Rd.u64 Try.underlying22) (.cons (n := 1) rfl (by kernel_rfl) (Rd.u64 Try.underlying22) (.cons (n := 1) rfl (by kernel_rfl) rd23 (.one (n := 1) rfl (by kernel_rfl) rd24)))) (by kernel_rfl)).conv
    (fun p => ⟨p.1, p.2.1, p.2.2.1, p.2.2.2⟩) fun p h => ⟨h.2.2, rfl⟩
theorem rd39 : Rd Try.prog 39 Entry.cells (fun e => -9223372036854775808 ≤ e.kind ∧ e.kind ≤ 9223372036854775807 ∧ e.data.length ≤ maxLen) :=
  (Rd.struct Try.underlying39 (.cons (n := 1) rfl (by kernel_rfl) (Rd.u64 Try.underlying22) (.cons (n := 1) rfl (by kernel_rfl) (Rd.u64 Try.underlying22) (.cons (n := 1) rfl (by kernel_rfl) (Rd.i64 Try.underlying3) (.one (n := 1) rfl (by kernel_rfl) rd24)))) (by kernel_rfl)).conv
    (fun p => ⟨p.1, p.2.1, p.2.2.1, p.2.2.2⟩) fun p h => ⟨⟨h.2.2.1.1, h.2.2.1.2, h.2.2.2⟩, rfl⟩
theorem rd27 : Rd Try.prog 27 (fun l : List Entry => [entries l]) (fun l => l.length ≤ maxLen ∧ ∀ e ∈ l, -9223372036854775808 ≤ e.kind ∧ e.kind ≤ 9223372036854775807 ∧ e.data.length ≤ maxLen) :=
  (Rd.slice Try.underlying27 rd39 (by kernel_rfl) (fun _ => rfl) (by decide)).conv id fun a h => ⟨h, rfl⟩
theorem rd46 : Rd Try.prog 46 Msg.cells (fun m => -9223372036854775808 ≤ m.kind ∧ m.kind ≤ 9223372036854775807 ∧ m.ents.length ≤ maxLen) :=
  (Rd.struct Try.underlying46 (.cons (n := 1) rfl (by kernel_rfl) (Rd.i64 Try.underlying3) (.cons (n := 1) rfl (by kernel_rfl) (Rd.u64 Try.underlying22) (.cons (n := 1) rfl (by kernel_rfl) (Rd.u64 Try.underlying22) (.cons (n := 1) rfl (by kernel_rfl) (Rd.u64 Try.underlying22)
    (.cons (n := 1) rfl (by kernel_rfl) (Rd.u64 Try.underlying22) (.cons (n := 1) rfl (by kernel_rfl) (Rd.u64 Try.underlying22) (.cons (n := 1) rfl (by kernel_rfl) (Rd.u64 Try.underlying22) (.cons (n := 1) rfl (by kernel_rfl) (Rd.u64 Try.underlying22)
    (.cons (n := 1) rfl (by kernel_rfl) (Rd.bool Try.underlying4) (.cons (n := 1) rfl (by kernel_rfl) rd27 (.one (n := 4) rfl (by kernel_rfl) rd26))))))))))) (by kernel_rfl)).conv
    (fun p => ⟨p.1, p.2.1, p.2.2.1, p.2.2.2.1, p.2.2.2.2.1, p.2.2.2.2.2.1, p.2.2.2.2.2.2.1, p.2.2.2.2.2.2.2.1, p.2.2.2.2.2.2.2.2.1, p.2.2.2.2.2.2.2.2.2.1, p.2.2.2.2.2.2.2.2.2.2⟩)
    fun p h => ⟨⟨h.1.1, h.1.2, h.2.2.2.2.2.2.2.2.2.1.1⟩, rfl⟩
end Go.Proofs.Ytnmgamcmjjngcaa
