import Derived.Test.YtnmgamcmjjngcaaY10
import Derived.Test.YtnmgamcmjjngcaaAvO
set_option linter.unusedVariables false
set_option linter.unusedSimpArgs false
namespace Go.Proofs.Ytnmgamcmjjngcaa
open Go.Av

theorem eqBoolSame {P : Program} {c : Cls} {E : AEnv} {h : AHeap} {K : AV → AHeap → Prop} {neg : Bool} {x y : Operand} {a : Bool} (hx : aev E x = some (.v (.bool a))) (hy : aev E y = some (.v (.bool a))) (hk : K (.v (.bool (!neg))) h) : ROpS P c (.eq neg .bool x y) E h K := by
  refine R.eqBool hx hy ?_
  cases neg <;> simpa using hk

theorem at_all1000 (L : Log) (hi : L.s.index.toNat ≤ 9223372036854775807) (hl : L.l.length ≤ 1000) : L.at' (L.s.index + 1) 1000 = L.l := by
  unfold Log.at'
  match hL : L.l with
  | [] => split <;> simp
  | x :: r =>
    rw [hL] at hl
    have h5 : (UInt64.ofNat (x :: r).length).toNat = (x :: r).length := UInt64.toNat_ofNat_of_lt' (by simp only [UInt64.size]; omega)
    have hle : L.s.index + 1 ≤ L.s.index + UInt64.ofNat (x :: r).length := UInt64.le_iff_toNat_le.2 (by
      simp only [UInt64.toNat_add, h5]
      simp at hl ⊢; omega)
    rw [if_pos ⟨UInt64.le_refl _, hle, by decide⟩, UInt64.sub_self]
    show (List.drop 0 (x :: r)).take 1000 = x :: r
    rw [List.drop_zero, List.take_of_length_le hl]

/-- plenum/plenumlaw08.Same -/
def r36 : RCode :=
  (.seq (.region [
    ⟨(some 4), none, .act, .mv (.const (.bool false))⟩])
  (.seq (.seq (.region [
    ⟨(some 11), none, .act, .mv (.tmp 0)⟩,
    ⟨(some 12), none, .act, .eq false .ptr (.tmp 11) (.const (.pointer none))⟩,
    ⟨(some 13), none, .act, .mv (.tmp 12)⟩,
    ⟨(some 14), (some (13, false)), .act, .mv (.tmp 1)⟩,
    ⟨(some 15), (some (13, false)), .act, .eq false .ptr (.tmp 14) (.const (.pointer none))⟩,
    ⟨(some 16), none, .act, .pick (.tmp 13) (.const (.bool true)) (.tmp 15)⟩])
  (.cond (.tmp 16)
   (.seq (.region [
     ⟨(some 17), none, .act, .mv (.tmp 0)⟩,
     ⟨(some 18), none, .act, .eq false .ptr (.tmp 17) (.const (.pointer none))⟩,
     ⟨(some 19), none, .act, .mv (.tmp 18)⟩,
     ⟨(some 20), (some (19, true)), .act, .mv (.tmp 1)⟩,
     ⟨(some 21), (some (19, true)), .act, .eq false .ptr (.tmp 20) (.const (.pointer none))⟩,
     ⟨(some 22), none, .act, .pick (.tmp 19) (.tmp 21) (.const (.bool false))⟩,
     ⟨(some 4), none, .act, .mv (.tmp 22)⟩])
   .ret)
   .skip))
  (.seq (.region [
    ⟨(some 24), none, .act, .mv (.tmp 0)⟩,
    ⟨(some 25), none, .act, .call 70 [(.tmp 24)]⟩,
    ⟨(some 23), none, .act, .mv (.tmp 25)⟩,
    ⟨(some 26), none, .act, .extract (.tmp 23) 0⟩,
    ⟨(some 27), none, .act, .extract (.tmp 23) 1⟩,
    ⟨(some 5), none, .act, .mv (.tmp 26)⟩,
    ⟨(some 6), none, .act, .mv (.tmp 27)⟩])
  (.seq (.region [
    ⟨(some 29), none, .act, .mv (.tmp 0)⟩,
    ⟨(some 30), none, .act, .call 71 [(.tmp 29)]⟩,
    ⟨(some 28), none, .act, .mv (.tmp 30)⟩,
    ⟨(some 31), none, .act, .extract (.tmp 28) 0⟩,
    ⟨(some 32), none, .act, .extract (.tmp 28) 1⟩,
    ⟨(some 7), none, .act, .mv (.tmp 31)⟩,
    ⟨(some 8), none, .act, .mv (.tmp 32)⟩])
  (.seq (.region [
    ⟨(some 34), none, .act, .mv (.tmp 1)⟩,
    ⟨(some 35), none, .act, .call 72 [(.tmp 34)]⟩,
    ⟨(some 33), none, .act, .mv (.tmp 35)⟩,
    ⟨(some 36), none, .act, .extract (.tmp 33) 0⟩,
    ⟨(some 37), none, .act, .extract (.tmp 33) 1⟩,
    ⟨(some 9), none, .act, .mv (.tmp 36)⟩,
    ⟨(some 10), none, .act, .mv (.tmp 37)⟩])
  (.seq (.region [
    ⟨(some 38), none, .pure, .mv (.tmp 0)⟩,
    ⟨(some 39), none, .read, .call 49 [(.tmp 38)]⟩,
    ⟨(some 40), none, .pure, .mv (.tmp 1)⟩,
    ⟨(some 41), none, .pure, .nilCheck (.tmp 40)⟩,
    ⟨(some 42), none, .pure, .fieldAddr 0 (.tmp 41)⟩,
    ⟨(some 43), none, .read, .load true 4 (.tmp 42)⟩,
    ⟨(some 44), none, .act, .call 60 [(.tmp 39), (.tmp 43)]⟩,
    ⟨(some 45), none, .pure, .mv (.tmp 44)⟩,
    ⟨(some 46), (some (45, true)), .pure, .mv (.tmp 0)⟩,
    ⟨(some 48), (some (45, true)), .pure, .mv (.tmp 1)⟩,
    ⟨(some 47), (some (45, true)), .act, .call 16 [(.tmp 46)]⟩,
    ⟨(some 49), (some (45, true)), .act, .call 62 [(.tmp 48)]⟩,
    ⟨(some 50), (some (45, true)), .pure, .eq false .int (.tmp 47) (.tmp 49)⟩,
    ⟨(some 51), none, .pure, .pick (.tmp 45) (.tmp 50) (.const (.bool false))⟩,
    ⟨(some 52), none, .pure, .mv (.tmp 51)⟩,
    ⟨(some 53), (some (52, true)), .pure, .mv (.tmp 0)⟩,
    ⟨(some 55), (some (52, true)), .pure, .mv (.tmp 1)⟩,
    ⟨(some 54), (some (52, true)), .act, .call 50 [(.tmp 53)]⟩,
    ⟨(some 56), (some (52, true)), .act, .call 63 [(.tmp 55)]⟩,
    ⟨(some 57), (some (52, true)), .pure, .eq false .int (.tmp 54) (.tmp 56)⟩,
    ⟨(some 58), none, .pure, .pick (.tmp 52) (.tmp 57) (.const (.bool false))⟩,
    ⟨(some 59), none, .pure, .mv (.tmp 58)⟩,
    ⟨(some 60), (some (59, true)), .pure, .mv (.tmp 0)⟩,
    ⟨(some 61), (some (59, true)), .pure, .mv (.tmp 0)⟩,
    ⟨(some 62), (some (59, true)), .read, .call 16 [(.tmp 61)]⟩,
    ⟨(some 63), (some (59, true)), .read, .call 15 [(.tmp 60), (.tmp 62), (.const (.int .i64 1000))]⟩,
    ⟨(some 64), (some (59, true)), .pure, .mv (.tmp 1)⟩,
    ⟨(some 65), (some (59, true)), .pure, .nilCheck (.tmp 64)⟩,
    ⟨(some 66), (some (59, true)), .pure, .fieldAddr 4 (.tmp 65)⟩,
    ⟨(some 67), (some (59, true)), .read, .load false 1 (.tmp 66)⟩,
    ⟨(some 68), (some (59, true)), .act, .call 17 [(.tmp 63), (.tmp 67)]⟩,
    ⟨(some 69), none, .pure, .pick (.tmp 59) (.tmp 68) (.const (.bool false))⟩,
    ⟨(some 70), none, .pure, .mv (.tmp 69)⟩,
    ⟨(some 71), (some (70, true)), .pure, .mv (.tmp 5)⟩,
    ⟨(some 72), (some (70, true)), .pure, .mv (.tmp 1)⟩,
    ⟨(some 73), (some (70, true)), .pure, .nilCheck (.tmp 72)⟩,
    ⟨(some 74), (some (70, true)), .pure, .fieldAddr 5 (.tmp 73)⟩,
    ⟨(some 75), (some (70, true)), .read, .load false 1 (.tmp 74)⟩,
    ⟨(some 76), (some (70, true)), .pure, .eq false .int (.tmp 71) (.tmp 75)⟩,
    ⟨(some 77), none, .pure, .pick (.tmp 70) (.tmp 76) (.const (.bool false))⟩,
    ⟨(some 78), none, .pure, .mv (.tmp 77)⟩,
    ⟨(some 79), (some (78, true)), .pure, .mv (.tmp 6)⟩,
    ⟨(some 80), (some (78, true)), .pure, .mv (.tmp 1)⟩,
    ⟨(some 81), (some (78, true)), .pure, .nilCheck (.tmp 80)⟩,
    ⟨(some 82), (some (78, true)), .pure, .fieldAddr 6 (.tmp 81)⟩,
    ⟨(some 83), (some (78, true)), .read, .load false 1 (.tmp 82)⟩,
    ⟨(some 84), (some (78, true)), .pure, .eq false .bool (.tmp 79) (.tmp 83)⟩,
    ⟨(some 85), none, .pure, .pick (.tmp 78) (.tmp 84) (.const (.bool false))⟩,
    ⟨(some 86), none, .pure, .mv (.tmp 85)⟩,
    ⟨(some 87), (some (86, true)), .pure, .mv (.tmp 7)⟩,
    ⟨(some 88), (some (86, true)), .pure, .mv (.tmp 9)⟩,
    ⟨(some 89), (some (86, true)), .act, .call 47 [(.tmp 87), (.tmp 88)]⟩,
    ⟨(some 90), none, .pure, .pick (.tmp 86) (.tmp 89) (.const (.bool false))⟩,
    ⟨(some 91), none, .pure, .mv (.tmp 90)⟩,
    ⟨(some 92), (some (91, true)), .pure, .mv (.tmp 8)⟩,
    ⟨(some 93), (some (91, true)), .pure, .mv (.tmp 10)⟩,
    ⟨(some 94), (some (91, true)), .pure, .eq false .int (.tmp 92) (.tmp 93)⟩,
    ⟨(some 95), none, .pure, .pick (.tmp 91) (.tmp 94) (.const (.bool false))⟩,
    ⟨(some 4), none, .pure, .mv (.tmp 95)⟩])
  .ret))))))
theorem res36 : ∃ c, Try.f36.body = some c ∧ resCode Try.prog 96 c = some r36 := ⟨_, rfl, by kernel_rfl⟩
theorem rr36 : resRes Try.prog Try.f36.results.toList = some [.tmp 4] := by kernel_rfl
theorem sameLog_spec (L : Log) (n : Nat) (hL : L.ok n) (hn : n ≤ 40) (p q : Nat) (h : AHeap) (hp : h p = some (.box L.cells)) (hq : h q = some (.box L.cells)) :
    ACalls Try.prog 36 [ptr p, ptr q] h (fun x h' => x = bl true ∧ h' = h) := by
  have g1 := hL.len
  have g2 := hL.top
  have g3 := hL.members
  have g4 := hL.data
  have g5 : ∀ x ∈ L.l, x.data.length ≤ 140737488355328 := fun x hx => Nat.le_trans (hL.small x hx) (by decide)
  have c70 := dirty_spec L p h hp
  have c71 := members_spec L g5 (by omega) (by omega) p h hp
  have c72 := rmembers_spec L g5 (by omega) q h hq
  have c49 := snap_spec L (by omega) (by omega) p h hp
  have c60 := sameSnap_spec L.s (by omega) h
  have c16 := first_spec L p h hp
  have c62 := rfirst_spec L q h hq
  have c50 := last_spec L (by omega) p h hp
  have c63 := rlast_spec L (by omega) q h hq
  have c15 := entries_spec L g5 (by omega) (by omega) (L.s.index + 1) 1000 (by decide) p h hp
  rw [at_all1000 L (by omega) (by omega)] at c15
  have c17 := same_spec L.l (by omega) h
  have g6 := told_len L.l L.zero' g3
  generalize told L.zero' L.l = d at c71 c72 g6
  have c47 := numbers_spec d.1 (by omega) h
  replace c71 : ACalls Try.prog 71 [ptr p] h (fun x h' => x = .tu [u64s d.1, u64 d.2] ∧ h' = h) := c71
  replace c72 : ACalls Try.prog 72 [ptr q] h (fun x h' => x = .tu [u64s d.1, u64 d.2] ∧ h' = h) := c72
  obtain ⟨c, hc1, hc2⟩ := res36
  refine ACalls.weak (ACalls.enter Try.func36 hc1 Try.ntmps36 hc2 (Nat.le_of_ble_eq_true rfl) rfl ?_)
  repeat' (first
    | refine S.nilK ?_
    | (refine S.op rfl ?_; first
      | refine R.callQ (by decide) rfl c70 ?_
      | refine R.callQ (by decide) rfl c71 ?_
      | refine R.callQ (by decide) rfl c72 ?_
      | refine R.callQ (by decide) rfl c49 ?_
      | refine R.callQ (by decide) rfl c60 ?_
      | refine R.callQ (by decide) rfl c16 ?_
      | refine R.callQ (by decide) rfl c62 ?_
      | refine R.callQ (by decide) rfl c50 ?_
      | refine R.callQ (by decide) rfl c63 ?_
      | refine R.callQ (by decide) rfl c15 ?_
      | refine R.callQ (by decide) rfl c17 ?_
      | refine R.callQ (by decide) rfl c47 ?_
      | refine S.eqIntSame rfl rfl ?_
      | refine eqBoolSame rfl rfl ?_
      | refine R.mv rfl ?_
      | refine R.fieldAddr rfl ?_
      | refine R.fieldAddrR rfl ?_
      | refine R.nilCheck rfl ?_
      | refine R.nilCheckR rfl ?_
      | refine R.loadR rfl rfl ?_
      | refine R.load (by decide) rfl (by (repeat' (first | assumption | exact AHeap.set_same _ _ _ | refine AHeap.get_fresh (by assumption) ?_ | refine AHeap.so ?_ ?_ | exact AHeap.n1 (by assumption) | exact AHeap.n2 (by assumption) | exact AHeap.ne_of (by assumption) (by assumption) | exact AHeap.n4 (by assumption) (by assumption) | exact AHeap.n5 (by assumption) | exact AHeap.n6 (by assumption) | exact AHeap.n7 (by assumption) (by assumption) | exact AHeap.n8 (by assumption) (by assumption))); first | done | fail) rfl ?_
      | refine S.addI rfl rfl (by omega) ?_
      | refine S.subI rfl rfl (by omega) ?_
      | refine S.addU rfl rfl ?_
      | refine S.subU rfl rfl ?_
      | refine S.addUc rfl (by decide) ?_
      | refine S.subUc rfl (by decide) ?_
      | refine S.arith rfl rfl rfl ?_
      | refine R.pickT rfl rfl ?_
      | refine R.pickF rfl rfl ?_
      | refine R.len rfl ?_
      | refine R.lenA rfl ?_
      | refine R.lenStr rfl ?_
      | refine S.convIU rfl (by omega) ?_
      | refine S.convUI rfl (by omega) ?_
      | refine R.convInt rfl ?_
      | refine R.not rfl ?_
      | refine R.eqPtrNil rfl rfl ?_
      | refine R.extract rfl rfl ?_
      | refine R.field rfl rfl ?_
      | refine R.alloc rfl (fun b hb => ?_)
      | refine R.box rfl rfl rfl (fun b hb => ?_)
      | refine R.build rfl rfl ?_
      | refine R.buildSl rfl rfl rfl (by decide) ?_
      | refine R.toStr rfl ?_
      | refine R.convStr rfl ?_
      | refine R.minmax rfl ?_
      | refine R.makeFunc rfl rfl ?_
      | (first | refine S.lss rfl rfl (fun hlt => ?_) (fun hlt => by exfalso; omega) | refine S.lss rfl rfl (fun hlt => by exfalso; omega) (fun hlt => ?_) | refine S.lss rfl rfl (fun hlt => ?_) (fun hlt => ?_))
      | (first | refine S.gtr rfl rfl (fun hlt => ?_) (fun hlt => by exfalso; omega) | refine S.gtr rfl rfl (fun hlt => by exfalso; omega) (fun hlt => ?_) | refine S.gtr rfl rfl (fun hlt => ?_) (fun hlt => ?_))
      | (first | refine S.leq rfl rfl (fun hlt => ?_) (fun hlt => by exfalso; omega) | refine S.leq rfl rfl (fun hlt => by exfalso; omega) (fun hlt => ?_) | refine S.leq rfl rfl (fun hlt => ?_) (fun hlt => ?_))
      | (first | refine S.geq rfl rfl (fun hlt => ?_) (fun hlt => by exfalso; omega) | refine S.geq rfl rfl (fun hlt => by exfalso; omega) (fun hlt => ?_) | refine S.geq rfl rfl (fun hlt => ?_) (fun hlt => ?_))
      | (first | refine S.eqInt rfl rfl (fun hlt => ?_) (fun hlt => by exfalso; omega) | refine S.eqInt rfl rfl (fun hlt => by exfalso; omega) (fun hlt => ?_) | refine S.eqInt rfl rfl (fun hlt => ?_) (fun hlt => ?_)))
    | (refine S.op0 rfl ?_; first | refine S.storeS rfl rfl rfl (by rfl) rfl (by first | decide | exact Nat.le_refl _ | exact Nat.le_of_ble_eq_true rfl) ?_ | refine S.store rfl rfl (by (repeat' (first | assumption | exact AHeap.set_same _ _ _ | refine AHeap.get_fresh (by assumption) ?_ | refine AHeap.so ?_ ?_ | exact AHeap.n1 (by assumption) | exact AHeap.n2 (by assumption) | exact AHeap.ne_of (by assumption) (by assumption) | exact AHeap.n4 (by assumption) (by assumption) | exact AHeap.n5 (by assumption) | exact AHeap.n6 (by assumption) | exact AHeap.n7 (by assumption) (by assumption) | exact AHeap.n8 (by assumption) (by assumption))); first | done | fail) rfl rfl rfl (by rfl) rfl ?_)
    | refine S.skip rfl ?_
    | refine S.skip0 rfl ?_
    | refine S.seq ?_
    | refine S.region ?_
    | refine S.regionT ?_
    | refine S.tstep ?_
    | refine S.talt ?_ ?_
    | exact S.tstop
    | refine S.tdone ?_
    | refine S.condT rfl ?_
    | refine S.condF rfl ?_
    | refine RRun.skip ?_
    | refine RRun.block ?_
    | refine RRun.inBlock ?_
    | refine RRun.exit rfl ?_)
  apply S.ret rr36
  case hx => repeat (first | exact ResAt.nil | apply ResAt.tmp rfl | apply ResAt.cellA rfl (by (repeat' (first | assumption | exact AHeap.set_same _ _ _ | refine AHeap.get_fresh (by assumption) ?_ | refine AHeap.so ?_ ?_ | exact AHeap.n1 (by assumption) | exact AHeap.n2 (by assumption) | exact AHeap.ne_of (by assumption) (by assumption) | exact AHeap.n4 (by assumption) (by assumption) | exact AHeap.n5 (by assumption) | exact AHeap.n6 (by assumption) | exact AHeap.n7 (by assumption) (by assumption) | exact AHeap.n8 (by assumption) (by assumption))); first | done | fail) (by rfl) | apply ResAt.cell1 rfl (by (repeat' (first | assumption | exact AHeap.set_same _ _ _ | refine AHeap.get_fresh (by assumption) ?_ | refine AHeap.so ?_ ?_ | exact AHeap.n1 (by assumption) | exact AHeap.n2 (by assumption) | exact AHeap.ne_of (by assumption) (by assumption) | exact AHeap.n4 (by assumption) (by assumption) | exact AHeap.n5 (by assumption) | exact AHeap.n6 (by assumption) | exact AHeap.n7 (by assumption) (by assumption) | exact AHeap.n8 (by assumption) (by assumption))); first | done | fail) (by rfl))
  exact ⟨_, _, .refl _, .refl _, rfl, rfl⟩

end Go.Proofs.Ytnmgamcmjjngcaa
