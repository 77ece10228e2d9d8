/-
  No cell of these rows narrows 'for every input' (looked for: loops, veiled, ifaces, maps, wideKeys, modest, calm, conditions, laid).
  DERIVED. THE GIVEN ROWS OF THIS SEAT. 7 by the template 'for every input the law returns true; each argument reads behind the call as it read before'; 0 by the template 'total and deterministic' (their statements: YtnmgamcmjjngcaaTotals.lean).
  GIVEN WITH THE SEED: the statements are not yours to turn. If you find one false, say at which input.
  Laid BY PROGRAM, IN A SANDBOX (cutbox-rows.mjs): the forced cells as the released guide's own fill.sh prints them over the translation 1f5065d696ff1a6c… (all of the seat's roots in one cut). By AI agents, Wed Nov 11 2026. No macro, syntax, notation, axiom, sorry.
-/
import Derived.Test.YtnmgamcmjjngcaaChecked
import GoSem.Claim
import GoSem.ClaimJoined
import GoSem.ClaimMapViews
import Derived.JoinedTies
import Derived.KernelRfl
namespace Go.Proofs.Ytnmgamcmjjngcaa
/- THE CELL 'sum', in the pinned program and in every row, IS THE sha256 OF THE DUMP (.gsa) THAT YtnmgamcmjjngcaaProg.lean LOADS. Nothing in Lean hashes anything: it is a label: what it is worth is what the hold of that sum in a sandbox is worth. -/
noncomputable def Try.pinned : Pinned := { name := "ytnmgamcmjjngcaa", sum := "1f5065d696ff1a6c482d1577fd71ef453358969db6d0d6f06a03fb0adddb0ea7", checked := Try.checked }
namespace Rows
def none {H : Type} : Left H := { results := [], args := [] }

/-- 'plenumlaw08.RlogKeeps': WHATEVER THE INPUT: true; the input reads as it did. -/
def rlogKeepsSpec : ChangeSpec := { name := "rlogKeeps", fn := fun _ => fun
  | [d1, d2, d3] => { results := [.lit (.bool true)], args := [d1, d2, d3] }
  | _ => none }
def rlogKeepsRow : OpenClaim := { program := "ytnmgamcmjjngcaa", sum := "1f5065d696ff1a6c482d1577fd71ef453358969db6d0d6f06a03fb0adddb0ea7", func := "plenum/plenumlaw08.RlogKeeps", spec := "rlogKeeps", plainKeys := false, apart := false }
def RlogKeepsSaid : Prop := rlogKeepsRow.holds Try.pinned (OpenSpec.ofChange rlogKeepsSpec)

/-- ITS FALSE NEIGHBOUR: 'it returns false'. Refute it at one input. -/
def rlogKeepsWrong : ChangeSpec := { name := "rlogKeeps", fn := fun _ => fun
  | [d1, d2, d3] => { results := [.lit (.bool false)], args := [d1, d2, d3] }
  | _ => none }
def RlogKeepsWrongFalsely : Prop := rlogKeepsRow.holds Try.pinned (OpenSpec.ofChange rlogKeepsWrong)

/-- 'plenumlaw10.MeshPlain': WHATEVER THE INPUT: true; the input reads as it did. -/
def meshPlainSpec : ChangeSpec := { name := "meshPlain", fn := fun _ => fun
  | [d1, d2] => { results := [.lit (.bool true)], args := [d1, d2] }
  | _ => none }
def meshPlainRow : OpenClaim := { program := "ytnmgamcmjjngcaa", sum := "1f5065d696ff1a6c482d1577fd71ef453358969db6d0d6f06a03fb0adddb0ea7", func := "plenum/plenumlaw10.MeshPlain", spec := "meshPlain", plainKeys := false, apart := false }
def MeshPlainSaid : Prop := meshPlainRow.holds Try.pinned (OpenSpec.ofChange meshPlainSpec)

/-- ITS FALSE NEIGHBOUR: 'it returns false'. Refute it at one input. -/
def meshPlainWrong : ChangeSpec := { name := "meshPlain", fn := fun _ => fun
  | [d1, d2] => { results := [.lit (.bool false)], args := [d1, d2] }
  | _ => none }
def MeshPlainWrongFalsely : Prop := meshPlainRow.holds Try.pinned (OpenSpec.ofChange meshPlainWrong)

/-- 'plenumlaw10.MeshDoes': WHATEVER THE INPUT: true; the input reads as it did. -/
def meshDoesSpec : ChangeSpec := { name := "meshDoes", fn := fun _ => fun
  | [d1, d2] => { results := [.lit (.bool true)], args := [d1, d2] }
  | _ => none }
def meshDoesRow : OpenClaim := { program := "ytnmgamcmjjngcaa", sum := "1f5065d696ff1a6c482d1577fd71ef453358969db6d0d6f06a03fb0adddb0ea7", func := "plenum/plenumlaw10.MeshDoes", spec := "meshDoes", plainKeys := false, apart := false }
def MeshDoesSaid : Prop := meshDoesRow.holds Try.pinned (OpenSpec.ofChange meshDoesSpec)

/-- ITS FALSE NEIGHBOUR: 'it returns false'. Refute it at one input. -/
def meshDoesWrong : ChangeSpec := { name := "meshDoes", fn := fun _ => fun
  | [d1, d2] => { results := [.lit (.bool false)], args := [d1, d2] }
  | _ => none }
def MeshDoesWrongFalsely : Prop := meshDoesRow.holds Try.pinned (OpenSpec.ofChange meshDoesWrong)

/-- 'plenumlaw10.MeshNone': WHATEVER THE INPUT: true; the input reads as it did. -/
def meshNoneSpec : ChangeSpec := { name := "meshNone", fn := fun _ => fun
  | [d] => { results := [.lit (.bool true)], args := [d] }
  | _ => none }
def meshNoneRow : OpenClaim := { program := "ytnmgamcmjjngcaa", sum := "1f5065d696ff1a6c482d1577fd71ef453358969db6d0d6f06a03fb0adddb0ea7", func := "plenum/plenumlaw10.MeshNone", spec := "meshNone", plainKeys := false, apart := false }
def MeshNoneSaid : Prop := meshNoneRow.holds Try.pinned (OpenSpec.ofChange meshNoneSpec)

/-- ITS FALSE NEIGHBOUR: 'it returns false'. Refute it at one input. -/
def meshNoneWrong : ChangeSpec := { name := "meshNone", fn := fun _ => fun
  | [d] => { results := [.lit (.bool false)], args := [d] }
  | _ => none }
def MeshNoneWrongFalsely : Prop := meshNoneRow.holds Try.pinned (OpenSpec.ofChange meshNoneWrong)

/-- 'plenumlaw08.RlogDoes': WHATEVER THE INPUT: true; the input reads as it did. -/
def rlogDoesSpec : ChangeSpec := { name := "rlogDoes", fn := fun _ => fun
  | [d1, d2] => { results := [.lit (.bool true)], args := [d1, d2] }
  | _ => none }
def rlogDoesRow : OpenClaim := { program := "ytnmgamcmjjngcaa", sum := "1f5065d696ff1a6c482d1577fd71ef453358969db6d0d6f06a03fb0adddb0ea7", func := "plenum/plenumlaw08.RlogDoes", spec := "rlogDoes", plainKeys := false, apart := false }
def RlogDoesSaid : Prop := rlogDoesRow.holds Try.pinned (OpenSpec.ofChange rlogDoesSpec)

/-- ITS FALSE NEIGHBOUR: 'it returns false'. Refute it at one input. -/
def rlogDoesWrong : ChangeSpec := { name := "rlogDoes", fn := fun _ => fun
  | [d1, d2] => { results := [.lit (.bool false)], args := [d1, d2] }
  | _ => none }
def RlogDoesWrongFalsely : Prop := rlogDoesRow.holds Try.pinned (OpenSpec.ofChange rlogDoesWrong)

/-- 'plenumlaw08.RlogPuts': WHATEVER THE INPUT: true; the input reads as it did. -/
def rlogPutsSpec : ChangeSpec := { name := "rlogPuts", fn := fun _ => fun
  | [d1, d2, d3, d4, d5] => { results := [.lit (.bool true)], args := [d1, d2, d3, d4, d5] }
  | _ => none }
def rlogPutsRow : OpenClaim := { program := "ytnmgamcmjjngcaa", sum := "1f5065d696ff1a6c482d1577fd71ef453358969db6d0d6f06a03fb0adddb0ea7", func := "plenum/plenumlaw08.RlogPuts", spec := "rlogPuts", unfollowed := true, recurses := true, plainKeys := false, apart := false }
def RlogPutsSaid : Prop := rlogPutsRow.holds Try.pinned (OpenSpec.ofChange rlogPutsSpec)

/-- ITS FALSE NEIGHBOUR: 'it returns false'. Refute it at one input. -/
def rlogPutsWrong : ChangeSpec := { name := "rlogPuts", fn := fun _ => fun
  | [d1, d2, d3, d4, d5] => { results := [.lit (.bool false)], args := [d1, d2, d3, d4, d5] }
  | _ => none }
def RlogPutsWrongFalsely : Prop := rlogPutsRow.holds Try.pinned (OpenSpec.ofChange rlogPutsWrong)

/-- 'plenumlaw08.RlogBack': WHATEVER THE INPUT: true; the input reads as it did. -/
def rlogBackSpec : ChangeSpec := { name := "rlogBack", fn := fun _ => fun
  | [d1, d2, d3] => { results := [.lit (.bool true)], args := [d1, d2, d3] }
  | _ => none }
def rlogBackRow : OpenClaim := { program := "ytnmgamcmjjngcaa", sum := "1f5065d696ff1a6c482d1577fd71ef453358969db6d0d6f06a03fb0adddb0ea7", func := "plenum/plenumlaw08.RlogBack", spec := "rlogBack", unfollowed := true, recurses := true, plainKeys := false, apart := false }
def RlogBackSaid : Prop := rlogBackRow.holds Try.pinned (OpenSpec.ofChange rlogBackSpec)

/-- ITS FALSE NEIGHBOUR: 'it returns false'. Refute it at one input. -/
def rlogBackWrong : ChangeSpec := { name := "rlogBack", fn := fun _ => fun
  | [d1, d2, d3] => { results := [.lit (.bool false)], args := [d1, d2, d3] }
  | _ => none }
def RlogBackWrongFalsely : Prop := rlogBackRow.holds Try.pinned (OpenSpec.ofChange rlogBackWrong)

/- THE SECOND FORM. 'bulk': how many values and letters a reading holds, each counted each time it is reached (what is shared counts as often as it is met; a slice's spare places count too). A statement '..UptoSaid' is the law's where the arguments, and the package variables that the reading takes, are together of bulk at most 1048576: NARROWER than '..Said'. Prove '..Said' where nothing that the law and all that it calls make is longer than what came in: it says more and counts as full. Else prove '..UptoSaid'. A law counts once. -/
mutual
def uptoBulk {H : Type} : DataW H → Nat
  | .lit (.string bytes) => bytes.length + 1
  | .lit _ => 1
  | .nil => 1
  | .ptr d => uptoBulk d + 1
  | .slice elems spare => uptoBulkAll elems + uptoBulkAll spare + 1
  | .agg parts => uptoBulkAll parts + 1
  | .iface _ d => uptoBulk d + 1
  | .map entries => uptoBulkEntries entries + 1
  | .held _ => 1
def uptoBulkAll {H : Type} : List (DataW H) → Nat
  | [] => 0
  | d :: r => uptoBulk d + uptoBulkAll r
def uptoBulkEntries {H : Type} : List (Lit × DataW H) → Nat
  | [] => 0
  | x :: r => uptoBulkEntry x + uptoBulkEntries r
def uptoBulkEntry {H : Type} : Lit × DataW H → Nat
  | (.string bytes, d) => bytes.length + uptoBulk d + 1
  | (_, d) => uptoBulk d + 1
 end
def uptoSmall : (H : Type) → List (DataW H) → Bool := fun _ ds => decide (uptoBulkAll ds ≤ 1048576)
def OpenSpec.upto (s : _root_.Go.ChangeSpec) : _root_.Go.OpenSpec := { _root_.Go.OpenSpec.ofChange s with cond := some uptoSmall }

/-- 'plenumlaw08.RlogKeeps', WHERE WHAT IT READS IS OF BULK AT MOST 1048576: true; the input reads as it did. -/
def rlogKeepsUptoRow : OpenClaim := { program := "ytnmgamcmjjngcaa", sum := "1f5065d696ff1a6c482d1577fd71ef453358969db6d0d6f06a03fb0adddb0ea7", func := "plenum/plenumlaw08.RlogKeeps", spec := "rlogKeeps", plainKeys := false, apart := false, narrowed := true }
def RlogKeepsUptoSaid : Prop := rlogKeepsUptoRow.holds Try.pinned (OpenSpec.upto rlogKeepsSpec)

/-- 'plenumlaw10.MeshPlain', WHERE WHAT IT READS IS OF BULK AT MOST 1048576: true; the input reads as it did. -/
def meshPlainUptoRow : OpenClaim := { program := "ytnmgamcmjjngcaa", sum := "1f5065d696ff1a6c482d1577fd71ef453358969db6d0d6f06a03fb0adddb0ea7", func := "plenum/plenumlaw10.MeshPlain", spec := "meshPlain", plainKeys := false, apart := false, narrowed := true }
def MeshPlainUptoSaid : Prop := meshPlainUptoRow.holds Try.pinned (OpenSpec.upto meshPlainSpec)

/-- 'plenumlaw10.MeshDoes', WHERE WHAT IT READS IS OF BULK AT MOST 1048576: true; the input reads as it did. -/
def meshDoesUptoRow : OpenClaim := { program := "ytnmgamcmjjngcaa", sum := "1f5065d696ff1a6c482d1577fd71ef453358969db6d0d6f06a03fb0adddb0ea7", func := "plenum/plenumlaw10.MeshDoes", spec := "meshDoes", plainKeys := false, apart := false, narrowed := true }
def MeshDoesUptoSaid : Prop := meshDoesUptoRow.holds Try.pinned (OpenSpec.upto meshDoesSpec)

/-- 'plenumlaw10.MeshNone', WHERE WHAT IT READS IS OF BULK AT MOST 1048576: true; the input reads as it did. -/
def meshNoneUptoRow : OpenClaim := { program := "ytnmgamcmjjngcaa", sum := "1f5065d696ff1a6c482d1577fd71ef453358969db6d0d6f06a03fb0adddb0ea7", func := "plenum/plenumlaw10.MeshNone", spec := "meshNone", plainKeys := false, apart := false, narrowed := true }
def MeshNoneUptoSaid : Prop := meshNoneUptoRow.holds Try.pinned (OpenSpec.upto meshNoneSpec)

/-- 'plenumlaw08.RlogDoes', WHERE WHAT IT READS IS OF BULK AT MOST 1048576: true; the input reads as it did. -/
def rlogDoesUptoRow : OpenClaim := { program := "ytnmgamcmjjngcaa", sum := "1f5065d696ff1a6c482d1577fd71ef453358969db6d0d6f06a03fb0adddb0ea7", func := "plenum/plenumlaw08.RlogDoes", spec := "rlogDoes", plainKeys := false, apart := false, narrowed := true }
def RlogDoesUptoSaid : Prop := rlogDoesUptoRow.holds Try.pinned (OpenSpec.upto rlogDoesSpec)

/-- 'plenumlaw08.RlogPuts', WHERE WHAT IT READS IS OF BULK AT MOST 1048576: true; the input reads as it did. -/
def rlogPutsUptoRow : OpenClaim := { program := "ytnmgamcmjjngcaa", sum := "1f5065d696ff1a6c482d1577fd71ef453358969db6d0d6f06a03fb0adddb0ea7", func := "plenum/plenumlaw08.RlogPuts", spec := "rlogPuts", unfollowed := true, recurses := true, plainKeys := false, apart := false, narrowed := true }
def RlogPutsUptoSaid : Prop := rlogPutsUptoRow.holds Try.pinned (OpenSpec.upto rlogPutsSpec)

/-- 'plenumlaw08.RlogBack', WHERE WHAT IT READS IS OF BULK AT MOST 1048576: true; the input reads as it did. -/
def rlogBackUptoRow : OpenClaim := { program := "ytnmgamcmjjngcaa", sum := "1f5065d696ff1a6c482d1577fd71ef453358969db6d0d6f06a03fb0adddb0ea7", func := "plenum/plenumlaw08.RlogBack", spec := "rlogBack", unfollowed := true, recurses := true, plainKeys := false, apart := false, narrowed := true }
def RlogBackUptoSaid : Prop := rlogBackUptoRow.holds Try.pinned (OpenSpec.upto rlogBackSpec)

end Rows
end Go.Proofs.Ytnmgamcmjjngcaa
