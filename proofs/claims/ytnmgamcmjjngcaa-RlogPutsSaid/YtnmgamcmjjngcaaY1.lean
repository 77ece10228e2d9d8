import Derived.Test.YtnmgamcmjjngcaaT3
import Derived.Test.YtnmgamcmjjngcaaAvT
import Derived.Test.YtnmgamcmjjngcaaAvR
set_option linter.unusedVariables false
set_option linter.unusedSimpArgs false
namespace Go.Proofs.Ytnmgamcmjjngcaa
open Go.Av

/-! ### The number at the beginning of bytes -/

/-- What a number comes to, and how many bytes it has: 'i' bytes of it, 'n', have been read. -/
def numA : Nat → Nat → List UInt8 → Option (Nat × Nat)
  | _, _, [] => none
  | i, n, c :: r =>
    if i = 10 ∨ (i = 0 ∧ c.toNat = 128) ∨ 144115188075855872 ≤ n then none
    else if c.toNat < 128 then some (n * 128 + c.toNat % 128, i + 1)
    else numA (i + 1) (n * 128 + c.toNat % 128) r

theorem numA_lt : ∀ (l : List UInt8) (i n v s : Nat), numA i n l = some (v, s) → v < 18446744073709551616 ∧ i < s ∧ s ≤ i + l.length
  | [], _, _, _, _, h => by simp [numA] at h
  | c :: r, i, n, v, s, h => by
    simp only [numA] at h
    split at h
    · cases h
    · rename_i hc
      split at h
      · cases h
        simp only [List.length_cons]; omega
      · have := numA_lt r _ _ v s h
        simp only [List.length_cons]; omega

def numV (l : List UInt8) : Nat := match numA 0 0 l with | some p => p.1 | none => 0
def numS (l : List UInt8) : Nat := match numA 0 0 l with | some p => p.2 | none => 0
def un (n : Nat) : AV := .v (.int .u64 (n : Int))

def r92l0 : RCode :=
  (.seq (.region [
    ⟨(some 10), none, .act, .bin .lss (.tmp 9) (.tmp 8)⟩])
  (.seq (.cond (.tmp 10)
   .skip
   (.exit 0))
  (.seq (.block 1
   (.seq (.region [
     ⟨(some 11), none, .act, .mv (.tmp 9)⟩,
     ⟨(some 12), none, .act, .indexAddr 1 (.tmp 7) (.tmp 9)⟩,
     ⟨(some 13), none, .act, .load false 1 (.tmp 12)⟩,
     ⟨(some 5), none, .act, .mv (.tmp 11)⟩,
     ⟨(some 6), none, .act, .mv (.tmp 13)⟩])
   (.seq (.seq (.region [
     ⟨(some 14), none, .act, .mv (.tmp 5)⟩,
     ⟨(some 15), none, .act, .eq false .int (.tmp 14) (.const (.int .i64 10))⟩,
     ⟨(some 16), none, .act, .mv (.tmp 15)⟩,
     ⟨(some 17), (some (16, false)), .act, .mv (.tmp 5)⟩,
     ⟨(some 18), (some (16, false)), .act, .eq false .int (.tmp 17) (.const (.int .i64 0))⟩,
     ⟨(some 19), (some (16, false)), .act, .mv (.tmp 18)⟩,
     ⟨(some 20), (some (19, true)), .act, .mv (.tmp 6)⟩,
     ⟨(some 21), (some (19, true)), .act, .eq false .int (.tmp 20) (.const (.int .u8 128))⟩,
     ⟨(some 22), (some (16, false)), .act, .pick (.tmp 19) (.tmp 21) (.const (.bool false))⟩,
     ⟨(some 23), none, .act, .pick (.tmp 16) (.const (.bool true)) (.tmp 22)⟩,
     ⟨(some 24), none, .act, .mv (.tmp 23)⟩,
     ⟨(some 25), (some (24, false)), .act, .mv (.tmp 4)⟩,
     ⟨(some 26), (some (24, false)), .act, .bin .shr (.tmp 25) (.const (.int .u64 57))⟩,
     ⟨(some 27), (some (24, false)), .act, .eq true .int (.tmp 26) (.const (.int .u64 0))⟩,
     ⟨(some 28), none, .act, .pick (.tmp 24) (.const (.bool true)) (.tmp 27)⟩])
   (.cond (.tmp 28)
    (.exit 0)
    .skip))
   (.seq (.region [
     ⟨(some 29), none, .act, .mv (.tmp 4)⟩,
     ⟨(some 30), none, .act, .bin .shl (.tmp 29) (.const (.int .u64 7))⟩,
     ⟨(some 31), none, .act, .mv (.tmp 6)⟩,
     ⟨(some 32), none, .act, .bin .andNot (.tmp 31) (.const (.int .u8 128))⟩,
     ⟨(some 33), none, .act, .convInt .u64 (.tmp 32)⟩,
     ⟨(some 34), none, .act, .bin .or (.tmp 30) (.tmp 33)⟩,
     ⟨(some 4), none, .act, .mv (.tmp 34)⟩])
   (.seq (.region [
     ⟨(some 35), none, .act, .mv (.tmp 6)⟩,
     ⟨(some 36), none, .act, .bin .lss (.tmp 35) (.const (.int .u8 128))⟩])
   (.cond (.tmp 36)
    (.seq (.region [
      ⟨(some 37), none, .act, .mv (.tmp 4)⟩,
      ⟨(some 38), none, .act, .mv (.tmp 5)⟩,
      ⟨(some 39), none, .act, .bin .add (.tmp 38) (.const (.int .i64 1))⟩,
      ⟨(some 2), none, .act, .mv (.tmp 37)⟩,
      ⟨(some 3), none, .act, .mv (.tmp 39)⟩])
    .ret)
    .skip))))))
  (.region [
    ⟨(some 40), none, .act, .bin .add (.tmp 9) (.const (.int .i64 1))⟩,
    ⟨(some 9), none, .act, .mv (.tmp 40)⟩]))))
/-- plenum/row.number -/
def r92 : RCode :=
  (.seq (.region [
    ⟨(some 2), none, .act, .mv (.const (.int .u64 0))⟩,
    ⟨(some 3), none, .act, .mv (.const (.int .i64 0))⟩])
  (.seq (.region [
    ⟨(some 4), none, .act, .mv (.const (.int .u64 0))⟩])
  (.seq .skip
  (.seq (.seq (.region [
    ⟨(some 7), none, .act, .mv (.tmp 0)⟩,
    ⟨(some 8), none, .act, .len (.tmp 7)⟩,
    ⟨(some 9), none, .act, .mv (.const (.int .i64 0))⟩])
  (.block 0
   (.loop r92l0)))
  (.seq (.region [
    ⟨(some 2), none, .act, .mv (.const (.int .u64 0))⟩,
    ⟨(some 3), none, .act, .mv (.const (.int .i64 0))⟩])
  .ret)))))
theorem res92 : ∃ c, Try.f92.body = some c ∧ resCode Try.prog 41 c = some r92 := ⟨_, rfl, by kernel_rfl⟩
theorem rr92 : resRes Try.prog Try.f92.results.toList = some [.tmp 2, .tmp 3] := by kernel_rfl
theorem number_loop (l : List UInt8) (hl : l.length ≤ 140737488355328) (h : AHeap) (k : List RT) (Q : AV → AHeap → Prop) (R0 : Option (Nat × Nat))
    (hr : ∀ v s : Nat, R0 = some (v, s) → Q (.tu [un v, i64 s]) h) (hn : R0 = none → RRun Try.prog Try.f92 41 k (Env.get []) h Q) (m : Nat) :
    ∀ (i n : Nat), i + m = l.length → n < 18446744073709551616 → i ≤ 10 → numA i n (l.drop i) = R0 →
      RRun Try.prog Try.f92 41 (.inLoop r92l0 :: .inBlock 0 :: k) (Env.get [(9, i64 i), (8, i64 l.length), (7, bys l), (4, un n)]) h Q := by
  have hlen0 := len_bytes l
  induction m with
  | zero =>
    intro i n hi hnn hi10 hR
    rw [List.drop_of_length_le (by omega)] at hR
    refine RRun.inLoop ?_
    repeat' (first | refine S.nilK ?_ | (refine S.op rfl ?_; first | refine R.mv rfl ?_ | refine R.loadR rfl rfl ?_ | refine R.load (by decide) rfl (by (repeat' (first | assumption | exact AHeap.set_same _ _ _ | refine AHeap.get_fresh ‹_› ?_ | refine AHeap.so ?_ ?_ | exact AHeap.n1 ‹_› | exact AHeap.n2 ‹_› | exact AHeap.ne_of ‹_› ‹_› | exact AHeap.n4 ‹_› ‹_› | exact AHeap.n5 ‹_› | exact AHeap.n6 ‹_› | exact AHeap.n7 ‹_› ‹_› | exact AHeap.n8 ‹_› ‹_›)); first | done | fail) rfl ?_ | refine S.addI rfl rfl (by omega) ?_ | refine S.addU rfl rfl ?_ | refine S.addUc rfl (by decide) ?_ | refine S.arith rfl rfl rfl ?_ | refine R.pickT rfl rfl ?_ | refine R.pickF rfl rfl ?_ | refine R.len rfl ?_ | refine R.lenA rfl ?_ | refine R.lenStr rfl ?_ | refine S.convIU rfl (by omega) ?_ | refine S.convUI rfl (by omega) ?_ | refine R.convInt rfl ?_ | refine R.eqPtrNil rfl rfl ?_ | ((first | refine S.lss rfl rfl ?_ ?_ | refine S.eqInt rfl rfl ?_ ?_) <;> intro hlt <;> try (exfalso; omega))) | refine S.skip rfl ?_ | refine S.skip0 rfl ?_ | refine S.seq ?_ | refine S.region ?_ | refine S.condT rfl ?_ | refine S.condF rfl ?_ | refine RRun.skip ?_ | refine RRun.block ?_ | refine RRun.inBlock ?_ | refine RRun.exit rfl ?_)
    exact S.keep [] rfl (hn (by rw [← hR]; rfl))
  | succ m ih =>
    intro i n hi hnn hi10 hR
    have hie : i < l.length := by omega
    have h1 : (Go.Av.byteCells l)[((i : Nat) : Int).toNat]? = some (Go.Av.byteCell l[i]) := by simp [Go.Av.byteCells, hie]
    rw [List.drop_eq_getElem_cons hie] at hR
    generalize l[i] = c at h1 hR
    have hc := UInt8.toNat_lt c
    have ih' := ih (i + 1) (n * 128 + c.toNat % 128) (by omega)
    clear ih
    simp only [numA] at hR
    refine RRun.inLoop ?_
    by_cases hx : i = 10 ∨ (i = 0 ∧ c.toNat = 128) ∨ 144115188075855872 ≤ n
    · rw [if_pos hx] at hR
      repeat' (first | refine S.nilK ?_ | (refine S.op rfl ?_; first | refine R.indexAddr rfl rfl (by omega) h1 ?_ | refine S.shrN (s := 57) (by decide) rfl ?_ | refine R.mv rfl ?_ | refine R.loadR rfl rfl ?_ | refine R.load (by decide) rfl (by (repeat' (first | assumption | exact AHeap.set_same _ _ _ | refine AHeap.get_fresh ‹_› ?_ | refine AHeap.so ?_ ?_ | exact AHeap.n1 ‹_› | exact AHeap.n2 ‹_› | exact AHeap.ne_of ‹_› ‹_› | exact AHeap.n4 ‹_› ‹_› | exact AHeap.n5 ‹_› | exact AHeap.n6 ‹_› | exact AHeap.n7 ‹_› ‹_› | exact AHeap.n8 ‹_› ‹_›)); first | done | fail) rfl ?_ | refine S.addI rfl rfl (by omega) ?_ | refine S.addU rfl rfl ?_ | refine S.addUc rfl (by decide) ?_ | refine S.arith rfl rfl rfl ?_ | refine R.pickT rfl rfl ?_ | refine R.pickF rfl rfl ?_ | refine R.len rfl ?_ | refine R.lenA rfl ?_ | refine R.lenStr rfl ?_ | refine S.convIU rfl (by omega) ?_ | refine S.convUI rfl (by omega) ?_ | refine R.convInt rfl ?_ | refine R.eqPtrNil rfl rfl ?_ | ((first | refine S.lss rfl rfl ?_ ?_ | refine S.eqInt rfl rfl ?_ ?_) <;> intro hlt <;> try (exfalso; omega))) | refine S.skip rfl ?_ | refine S.skip0 rfl ?_ | refine S.seq ?_ | refine S.region ?_ | refine S.condT rfl ?_ | refine S.condF rfl ?_ | refine RRun.skip ?_ | refine RRun.block ?_ | refine RRun.inBlock ?_ | refine RRun.exit rfl ?_)
      all_goals exact S.keep [] rfl (hn hR.symm)
    · rw [if_neg hx] at hR
      by_cases hc8 : c.toNat < 128
      · rw [if_pos hc8] at hR
        repeat' (first | refine S.nilK ?_ | (refine S.op rfl ?_; first | refine R.indexAddr rfl rfl (by omega) h1 ?_ | refine S.shrN (s := 57) (by decide) rfl ?_ | refine S.shlN (s := 7) (by decide) (by omega) rfl ?_ | refine S.andNot7 (by omega) rfl ?_ | refine S.convU (by omega) rfl ?_ | refine S.or7 (by omega) (by omega) rfl rfl ?_ | refine R.mv rfl ?_ | refine R.loadR rfl rfl ?_ | refine R.load (by decide) rfl (by (repeat' (first | assumption | exact AHeap.set_same _ _ _ | refine AHeap.get_fresh ‹_› ?_ | refine AHeap.so ?_ ?_ | exact AHeap.n1 ‹_› | exact AHeap.n2 ‹_› | exact AHeap.ne_of ‹_› ‹_› | exact AHeap.n4 ‹_› ‹_› | exact AHeap.n5 ‹_› | exact AHeap.n6 ‹_› | exact AHeap.n7 ‹_› ‹_› | exact AHeap.n8 ‹_› ‹_›)); first | done | fail) rfl ?_ | refine S.addI rfl rfl (by omega) ?_ | refine S.addU rfl rfl ?_ | refine S.addUc rfl (by decide) ?_ | refine S.arith rfl rfl rfl ?_ | refine R.pickT rfl rfl ?_ | refine R.pickF rfl rfl ?_ | refine R.len rfl ?_ | refine R.lenA rfl ?_ | refine R.lenStr rfl ?_ | refine S.convIU rfl (by omega) ?_ | refine S.convUI rfl (by omega) ?_ | refine R.convInt rfl ?_ | refine R.eqPtrNil rfl rfl ?_ | ((first | refine S.lss rfl rfl ?_ ?_ | refine S.eqInt rfl rfl ?_ ?_) <;> intro hlt <;> try (exfalso; omega))) | refine S.skip rfl ?_ | refine S.skip0 rfl ?_ | refine S.seq ?_ | refine S.region ?_ | refine S.condT rfl ?_ | refine S.condF rfl ?_ | refine RRun.skip ?_ | refine RRun.block ?_ | refine RRun.inBlock ?_ | refine RRun.exit rfl ?_)
        all_goals
          apply S.ret rr92
          case hx => repeat (first | exact ResAt.nil | apply ResAt.tmp rfl | apply ResAt.cellA rfl (by (repeat' (first | assumption | exact AHeap.set_same _ _ _ | refine AHeap.get_fresh ‹_› ?_ | refine AHeap.so ?_ ?_ | exact AHeap.n1 ‹_› | exact AHeap.n2 ‹_› | exact AHeap.ne_of ‹_› ‹_› | exact AHeap.n4 ‹_› ‹_› | exact AHeap.n5 ‹_› | exact AHeap.n6 ‹_› | exact AHeap.n7 ‹_› ‹_› | exact AHeap.n8 ‹_› ‹_›)); first | done | fail) (by rfl) | apply ResAt.cell1 rfl (by (repeat' (first | assumption | exact AHeap.set_same _ _ _ | refine AHeap.get_fresh ‹_› ?_ | refine AHeap.so ?_ ?_ | exact AHeap.n1 ‹_› | exact AHeap.n2 ‹_› | exact AHeap.ne_of ‹_› ‹_› | exact AHeap.n4 ‹_› ‹_› | exact AHeap.n5 ‹_› | exact AHeap.n6 ‹_› | exact AHeap.n7 ‹_› ‹_› | exact AHeap.n8 ‹_› ‹_›)); first | done | fail) (by rfl))
          rw [show ((i : Int) + 1) = ((i + 1 : Nat) : Int) by omega]
          exact hr _ _ hR.symm
      · rw [if_neg hc8] at hR
        repeat' (first | refine S.nilK ?_ | (refine S.op rfl ?_; first | refine R.indexAddr rfl rfl (by omega) h1 ?_ | refine S.shrN (s := 57) (by decide) rfl ?_ | refine S.shlN (s := 7) (by decide) (by omega) rfl ?_ | refine S.andNot7 (by omega) rfl ?_ | refine S.convU (by omega) rfl ?_ | refine S.or7 (by omega) (by omega) rfl rfl ?_ | refine R.mv rfl ?_ | refine R.loadR rfl rfl ?_ | refine R.load (by decide) rfl (by (repeat' (first | assumption | exact AHeap.set_same _ _ _ | refine AHeap.get_fresh ‹_› ?_ | refine AHeap.so ?_ ?_ | exact AHeap.n1 ‹_› | exact AHeap.n2 ‹_› | exact AHeap.ne_of ‹_› ‹_› | exact AHeap.n4 ‹_› ‹_› | exact AHeap.n5 ‹_› | exact AHeap.n6 ‹_› | exact AHeap.n7 ‹_› ‹_› | exact AHeap.n8 ‹_› ‹_›)); first | done | fail) rfl ?_ | refine S.addI rfl rfl (by omega) ?_ | refine S.addU rfl rfl ?_ | refine S.addUc rfl (by decide) ?_ | refine S.arith rfl rfl rfl ?_ | refine R.pickT rfl rfl ?_ | refine R.pickF rfl rfl ?_ | refine R.len rfl ?_ | refine R.lenA rfl ?_ | refine R.lenStr rfl ?_ | refine S.convIU rfl (by omega) ?_ | refine S.convUI rfl (by omega) ?_ | refine R.convInt rfl ?_ | refine R.eqPtrNil rfl rfl ?_ | ((first | refine S.lss rfl rfl ?_ ?_ | refine S.eqInt rfl rfl ?_ ?_) <;> intro hlt <;> try (exfalso; omega))) | refine S.skip rfl ?_ | refine S.skip0 rfl ?_ | refine S.seq ?_ | refine S.region ?_ | refine S.condT rfl ?_ | refine S.condF rfl ?_ | refine RRun.skip ?_ | refine RRun.block ?_ | refine RRun.inBlock ?_ | refine RRun.exit rfl ?_)
        all_goals
          rw [show ((i : Int) + 1) = ((i + 1 : Nat) : Int) by omega]
          exact S.keep [9, 8, 7, 4] rfl (ih' (by omega) (by omega) hR)

/-- The number at the beginning of bytes, and how many bytes it has; 0: there is none. -/
def numP (l : List UInt8) : Nat × Nat := (numA 0 0 l).getD (0, 0)

theorem number_spec (l : List UInt8) (hl : l.length ≤ 140737488355328) (h : AHeap) : ACalls Try.prog 92 [bys l] h (fun x h' => x = .tu [un (numP l).1, i64 (numP l).2] ∧ h' = h) := by
  have hlen0 := len_bytes l
  obtain ⟨c, hc1, hc2⟩ := res92
  refine ACalls.enter Try.func92 hc1 Try.ntmps92 hc2 (Nat.le_of_ble_eq_true rfl) rfl ?_
  repeat' (first | refine S.nilK ?_ | (refine S.op rfl ?_; first | refine R.mv rfl ?_ | refine R.loadR rfl rfl ?_ | refine R.load (by decide) rfl (by (repeat' (first | assumption | exact AHeap.set_same _ _ _ | refine AHeap.get_fresh ‹_› ?_ | refine AHeap.so ?_ ?_ | exact AHeap.n1 ‹_› | exact AHeap.n2 ‹_› | exact AHeap.ne_of ‹_› ‹_› | exact AHeap.n4 ‹_› ‹_› | exact AHeap.n5 ‹_› | exact AHeap.n6 ‹_› | exact AHeap.n7 ‹_› ‹_› | exact AHeap.n8 ‹_› ‹_›)); first | done | fail) rfl ?_ | refine S.addI rfl rfl (by omega) ?_ | refine S.addU rfl rfl ?_ | refine S.addUc rfl (by decide) ?_ | refine S.arith rfl rfl rfl ?_ | refine R.pickT rfl rfl ?_ | refine R.pickF rfl rfl ?_ | refine R.len rfl ?_ | refine R.lenA rfl ?_ | refine R.lenStr rfl ?_ | refine S.convIU rfl (by omega) ?_ | refine S.convUI rfl (by omega) ?_ | refine R.convInt rfl ?_ | refine R.eqPtrNil rfl rfl ?_ | ((first | refine S.lss rfl rfl ?_ ?_ | refine S.eqInt rfl rfl ?_ ?_) <;> intro hlt <;> try (exfalso; omega))) | refine S.skip rfl ?_ | refine S.skip0 rfl ?_ | refine S.seq ?_ | refine S.region ?_ | refine S.condT rfl ?_ | refine S.condF rfl ?_ | refine RRun.skip ?_ | refine RRun.block ?_ | refine RRun.inBlock ?_ | refine RRun.exit rfl ?_)
  rw [hlen0]
  refine RRun.loopIn (S.keep [9, 8, 7, 4] rfl (number_loop l hl h _ _ (numA 0 0 l) ?_ ?_ l.length 0 0 (by omega) (by decide) (by decide) rfl))
  · intro v s hv
    rw [numP, hv]; exact ⟨rfl, rfl⟩
  · intro hv
    repeat' (first | refine S.nilK ?_ | (refine S.op rfl ?_; first | refine R.mv rfl ?_ | refine R.loadR rfl rfl ?_ | refine R.load (by decide) rfl (by (repeat' (first | assumption | exact AHeap.set_same _ _ _ | refine AHeap.get_fresh ‹_› ?_ | refine AHeap.so ?_ ?_ | exact AHeap.n1 ‹_› | exact AHeap.n2 ‹_› | exact AHeap.ne_of ‹_› ‹_› | exact AHeap.n4 ‹_› ‹_› | exact AHeap.n5 ‹_› | exact AHeap.n6 ‹_› | exact AHeap.n7 ‹_› ‹_› | exact AHeap.n8 ‹_› ‹_›)); first | done | fail) rfl ?_ | refine S.addI rfl rfl (by omega) ?_ | refine S.addU rfl rfl ?_ | refine S.addUc rfl (by decide) ?_ | refine S.arith rfl rfl rfl ?_ | refine R.pickT rfl rfl ?_ | refine R.pickF rfl rfl ?_ | refine R.len rfl ?_ | refine R.lenA rfl ?_ | refine R.lenStr rfl ?_ | refine S.convIU rfl (by omega) ?_ | refine S.convUI rfl (by omega) ?_ | refine R.convInt rfl ?_ | refine R.eqPtrNil rfl rfl ?_ | ((first | refine S.lss rfl rfl ?_ ?_ | refine S.eqInt rfl rfl ?_ ?_) <;> intro hlt <;> try (exfalso; omega))) | refine S.skip rfl ?_ | refine S.skip0 rfl ?_ | refine S.seq ?_ | refine S.region ?_ | refine S.condT rfl ?_ | refine S.condF rfl ?_ | refine RRun.skip ?_ | refine RRun.block ?_ | refine RRun.inBlock ?_ | refine RRun.exit rfl ?_)
    apply S.ret rr92
    case hx => repeat (first | exact ResAt.nil | apply ResAt.tmp rfl | apply ResAt.cellA rfl (by (repeat' (first | assumption | exact AHeap.set_same _ _ _ | refine AHeap.get_fresh ‹_› ?_ | refine AHeap.so ?_ ?_ | exact AHeap.n1 ‹_› | exact AHeap.n2 ‹_› | exact AHeap.ne_of ‹_› ‹_› | exact AHeap.n4 ‹_› ‹_› | exact AHeap.n5 ‹_› | exact AHeap.n6 ‹_› | exact AHeap.n7 ‹_› ‹_› | exact AHeap.n8 ‹_› ‹_›)); first | done | fail) (by rfl) | apply ResAt.cell1 rfl (by (repeat' (first | assumption | exact AHeap.set_same _ _ _ | refine AHeap.get_fresh ‹_› ?_ | refine AHeap.so ?_ ?_ | exact AHeap.n1 ‹_› | exact AHeap.n2 ‹_› | exact AHeap.ne_of ‹_› ‹_› | exact AHeap.n4 ‹_› ‹_› | exact AHeap.n5 ‹_› | exact AHeap.n6 ‹_› | exact AHeap.n7 ‹_› ‹_› | exact AHeap.n8 ‹_› ‹_›)); first | done | fail) (by rfl))
    rw [numP, hv]; exact ⟨rfl, rfl⟩

end Go.Proofs.Ytnmgamcmjjngcaa
