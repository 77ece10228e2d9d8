/-
  NARROWER THAN 'FOR EVERY INPUT', by the rows' own cells (each row's printed sentence says how): RelCounts: loops · RelHolds: loops.
  DERIVED. THE GIVEN ROWS OF THIS SEAT. 4 by the template 'for every input the law returns true; each argument reads behind the call as it read before'; 0 by the template 'total and deterministic' (their statements: YthadifboeggnpaaTotals.lean).
  GIVEN WITH THE SEED: the statements are not yours to turn. If you find one false, say at which input.
  Laid BY PROGRAM, IN A SANDBOX (cutbox-rows.mjs): the forced cells as the released guide's own fill.sh prints them over the translation 9049455855c94d71… (all of the seat's roots in one cut). By AI agents, Wed Nov 11 2026. No macro, syntax, notation, axiom, sorry.
-/
import Derived.Test.YthadifboeggnpaaChecked
import GoSem.Claim
import GoSem.ClaimJoined
import GoSem.ClaimMapViews
import Derived.JoinedTies
import Derived.KernelRfl
namespace Go.Proofs.Ythadifboeggnpaa
/- THE CELL 'sum', in the pinned program and in every row, IS THE sha256 OF THE DUMP (.gsa) THAT YthadifboeggnpaaProg.lean LOADS. Nothing in Lean hashes anything: it is a label: what it is worth is what the hold of that sum in a sandbox is worth. -/
noncomputable def Try.pinned : Pinned := { name := "ythadifboeggnpaa", sum := "9049455855c94d718011ff9858570fb69cc846bf2639866ac42ea8453aaa0d9b", checked := Try.checked }
namespace Rows
def none {H : Type} : Left H := { results := [], args := [] }

/-- 'plenumlaw24.RelCounts': WHATEVER THE INPUT: true; the input reads as it did. -/
def relCountsSpec : ChangeSpec := { name := "relCounts", fn := fun _ => fun
  | [d1, d2] => { results := [.lit (.bool true)], args := [d1, d2] }
  | _ => none }
def relCountsRow : OpenClaim := { program := "ythadifboeggnpaa", sum := "9049455855c94d718011ff9858570fb69cc846bf2639866ac42ea8453aaa0d9b", func := "plenum/plenumlaw24.RelCounts", spec := "relCounts", inPlace := ["internal/bytealg.abigen_runtime_cmpstring"], recurses := true, loops := true, apart := false }
def RelCountsSaid : Prop := relCountsRow.holds Try.pinned (OpenSpec.ofChange relCountsSpec)

/-- ITS FALSE NEIGHBOUR: 'it returns false'. Refute it at one input. -/
def relCountsWrong : ChangeSpec := { name := "relCounts", fn := fun _ => fun
  | [d1, d2] => { results := [.lit (.bool false)], args := [d1, d2] }
  | _ => none }
def RelCountsWrongFalsely : Prop := relCountsRow.holds Try.pinned (OpenSpec.ofChange relCountsWrong)

/-- 'plenumlaw24.RelHolds': WHATEVER THE INPUT: true; the input reads as it did. -/
def relHoldsSpec : ChangeSpec := { name := "relHolds", fn := fun _ => fun
  | [d1, d2] => { results := [.lit (.bool true)], args := [d1, d2] }
  | _ => none }
def relHoldsRow : OpenClaim := { program := "ythadifboeggnpaa", sum := "9049455855c94d718011ff9858570fb69cc846bf2639866ac42ea8453aaa0d9b", func := "plenum/plenumlaw24.RelHolds", spec := "relHolds", inPlace := ["internal/bytealg.abigen_runtime_cmpstring"], recurses := true, loops := true, apart := false }
def RelHoldsSaid : Prop := relHoldsRow.holds Try.pinned (OpenSpec.ofChange relHoldsSpec)

/-- ITS FALSE NEIGHBOUR: 'it returns false'. Refute it at one input. -/
def relHoldsWrong : ChangeSpec := { name := "relHolds", fn := fun _ => fun
  | [d1, d2] => { results := [.lit (.bool false)], args := [d1, d2] }
  | _ => none }
def RelHoldsWrongFalsely : Prop := relHoldsRow.holds Try.pinned (OpenSpec.ofChange relHoldsWrong)

/-- 'plenumlaw24.RelOrders': WHATEVER THE INPUT: true; the input reads as it did. -/
def relOrdersSpec : ChangeSpec := { name := "relOrders", fn := fun _ => fun
  | [d1, d2] => { results := [.lit (.bool true)], args := [d1, d2] }
  | _ => none }
def relOrdersRow : OpenClaim := { program := "ythadifboeggnpaa", sum := "9049455855c94d718011ff9858570fb69cc846bf2639866ac42ea8453aaa0d9b", func := "plenum/plenumlaw24.RelOrders", spec := "relOrders", inPlace := ["internal/bytealg.abigen_runtime_cmpstring"], unfollowed := true, recurses := true, apart := false }
def RelOrdersSaid : Prop := relOrdersRow.holds Try.pinned (OpenSpec.ofChange relOrdersSpec)

/-- ITS FALSE NEIGHBOUR: 'it returns false'. Refute it at one input. -/
def relOrdersWrong : ChangeSpec := { name := "relOrders", fn := fun _ => fun
  | [d1, d2] => { results := [.lit (.bool false)], args := [d1, d2] }
  | _ => none }
def RelOrdersWrongFalsely : Prop := relOrdersRow.holds Try.pinned (OpenSpec.ofChange relOrdersWrong)

/-- 'plenumlaw24.RelSorts': WHATEVER THE INPUT: true; the input reads as it did. -/
def relSortsSpec : ChangeSpec := { name := "relSorts", fn := fun _ => fun
  | [d1, d2, d3] => { results := [.lit (.bool true)], args := [d1, d2, d3] }
  | _ => none }
def relSortsRow : OpenClaim := { program := "ythadifboeggnpaa", sum := "9049455855c94d718011ff9858570fb69cc846bf2639866ac42ea8453aaa0d9b", func := "plenum/plenumlaw24.RelSorts", spec := "relSorts", inPlace := ["internal/bytealg.abigen_runtime_cmpstring"], unfollowed := true, recurses := true, apart := false }
def RelSortsSaid : Prop := relSortsRow.holds Try.pinned (OpenSpec.ofChange relSortsSpec)

/-- ITS FALSE NEIGHBOUR: 'it returns false'. Refute it at one input. -/
def relSortsWrong : ChangeSpec := { name := "relSorts", fn := fun _ => fun
  | [d1, d2, d3] => { results := [.lit (.bool false)], args := [d1, d2, d3] }
  | _ => none }
def RelSortsWrongFalsely : Prop := relSortsRow.holds Try.pinned (OpenSpec.ofChange relSortsWrong)

/- THE SECOND FORM. 'bulk': how many values and letters a reading holds, each counted each time it is reached (what is shared counts as often as it is met; a slice's spare places count too). A statement '..UptoSaid' is the law's where the arguments, and the package variables that the reading takes, are together of bulk at most 1048576: NARROWER than '..Said'. Prove '..Said' where nothing that the law and all that it calls make is longer than what came in: it says more and counts as full. Else prove '..UptoSaid'. A law counts once. -/
mutual
def uptoBulk {H : Type} : DataW H → Nat
  | .lit (.string bytes) => bytes.length + 1
  | .lit _ => 1
  | .nil => 1
  | .ptr d => uptoBulk d + 1
  | .slice elems spare => uptoBulkAll elems + uptoBulkAll spare + 1
  | .agg parts => uptoBulkAll parts + 1
  | .iface _ d => uptoBulk d + 1
  | .map entries => uptoBulkEntries entries + 1
  | .held _ => 1
def uptoBulkAll {H : Type} : List (DataW H) → Nat
  | [] => 0
  | d :: r => uptoBulk d + uptoBulkAll r
def uptoBulkEntries {H : Type} : List (Lit × DataW H) → Nat
  | [] => 0
  | x :: r => uptoBulkEntry x + uptoBulkEntries r
def uptoBulkEntry {H : Type} : Lit × DataW H → Nat
  | (.string bytes, d) => bytes.length + uptoBulk d + 1
  | (_, d) => uptoBulk d + 1
 end
def uptoSmall : (H : Type) → List (DataW H) → Bool := fun _ ds => decide (uptoBulkAll ds ≤ 1048576)
def OpenSpec.upto (s : _root_.Go.ChangeSpec) : _root_.Go.OpenSpec := { _root_.Go.OpenSpec.ofChange s with cond := some uptoSmall }

/-- 'plenumlaw24.RelCounts', WHERE WHAT IT READS IS OF BULK AT MOST 1048576: true; the input reads as it did. -/
def relCountsUptoRow : OpenClaim := { program := "ythadifboeggnpaa", sum := "9049455855c94d718011ff9858570fb69cc846bf2639866ac42ea8453aaa0d9b", func := "plenum/plenumlaw24.RelCounts", spec := "relCounts", inPlace := ["internal/bytealg.abigen_runtime_cmpstring"], recurses := true, loops := true, apart := false, narrowed := true }
def RelCountsUptoSaid : Prop := relCountsUptoRow.holds Try.pinned (OpenSpec.upto relCountsSpec)

/-- 'plenumlaw24.RelHolds', WHERE WHAT IT READS IS OF BULK AT MOST 1048576: true; the input reads as it did. -/
def relHoldsUptoRow : OpenClaim := { program := "ythadifboeggnpaa", sum := "9049455855c94d718011ff9858570fb69cc846bf2639866ac42ea8453aaa0d9b", func := "plenum/plenumlaw24.RelHolds", spec := "relHolds", inPlace := ["internal/bytealg.abigen_runtime_cmpstring"], recurses := true, loops := true, apart := false, narrowed := true }
def RelHoldsUptoSaid : Prop := relHoldsUptoRow.holds Try.pinned (OpenSpec.upto relHoldsSpec)

/-- 'plenumlaw24.RelOrders', WHERE WHAT IT READS IS OF BULK AT MOST 1048576: true; the input reads as it did. -/
def relOrdersUptoRow : OpenClaim := { program := "ythadifboeggnpaa", sum := "9049455855c94d718011ff9858570fb69cc846bf2639866ac42ea8453aaa0d9b", func := "plenum/plenumlaw24.RelOrders", spec := "relOrders", inPlace := ["internal/bytealg.abigen_runtime_cmpstring"], unfollowed := true, recurses := true, apart := false, narrowed := true }
def RelOrdersUptoSaid : Prop := relOrdersUptoRow.holds Try.pinned (OpenSpec.upto relOrdersSpec)

/-- 'plenumlaw24.RelSorts', WHERE WHAT IT READS IS OF BULK AT MOST 1048576: true; the input reads as it did. -/
def relSortsUptoRow : OpenClaim := { program := "ythadifboeggnpaa", sum := "9049455855c94d718011ff9858570fb69cc846bf2639866ac42ea8453aaa0d9b", func := "plenum/plenumlaw24.RelSorts", spec := "relSorts", inPlace := ["internal/bytealg.abigen_runtime_cmpstring"], unfollowed := true, recurses := true, apart := false, narrowed := true }
def RelSortsUptoSaid : Prop := relSortsUptoRow.holds Try.pinned (OpenSpec.upto relSortsSpec)

end Rows
end Go.Proofs.Ythadifboeggnpaa
