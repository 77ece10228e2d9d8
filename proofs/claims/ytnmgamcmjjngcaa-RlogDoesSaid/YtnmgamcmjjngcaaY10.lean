import Derived.Test.YtnmgamcmjjngcaaY9
import Derived.Test.YtnmgamcmjjngcaaU11
set_option linter.unusedVariables false
set_option linter.unusedSimpArgs false
namespace Go.Proofs.Ytnmgamcmjjngcaa
open Go.Av

/-- (*plenum/plenumref06.Log).Compact -/
def r34 : RCode :=
  (.seq (.region [
    ⟨(some 6), none, .act, .mv (.const (.int .i64 0))⟩])
  (.seq (.seq (.region [
    ⟨(some 12), none, .act, .mv (.tmp 1)⟩,
    ⟨(some 13), none, .act, .mv (.tmp 0)⟩,
    ⟨(some 14), none, .act, .call 62 [(.tmp 13)]⟩,
    ⟨(some 15), none, .act, .bin .lss (.tmp 12) (.tmp 14)⟩,
    ⟨(some 16), none, .act, .mv (.tmp 15)⟩,
    ⟨(some 17), (some (16, false)), .act, .mv (.tmp 1)⟩,
    ⟨(some 18), (some (16, false)), .act, .mv (.tmp 0)⟩,
    ⟨(some 19), (some (16, false)), .act, .call 63 [(.tmp 18)]⟩,
    ⟨(some 20), (some (16, false)), .act, .bin .gtr (.tmp 17) (.tmp 19)⟩,
    ⟨(some 21), none, .act, .pick (.tmp 16) (.const (.bool true)) (.tmp 20)⟩])
  (.cond (.tmp 21)
   (.seq (.region [
     ⟨(some 6), none, .act, .mv (.const (.int .i64 1))⟩])
   .ret)
   .skip))
  (.seq (.region [
    ⟨(some 23), none, .act, .mv (.tmp 0)⟩,
    ⟨(some 24), none, .act, .mv (.tmp 1)⟩,
    ⟨(some 25), none, .act, .call 67 [(.tmp 23), (.tmp 24)]⟩,
    ⟨(some 22), none, .act, .mv (.tmp 25)⟩,
    ⟨(some 26), none, .act, .extract (.tmp 22) 0⟩,
    ⟨(some 27), none, .act, .extract (.tmp 22) 1⟩,
    ⟨(some 7), none, .act, .mv (.tmp 26)⟩,
    ⟨(some 8), none, .act, .mv (.tmp 27)⟩])
  (.seq (.region [
    ⟨(some 29), none, .act, .mv (.tmp 0)⟩,
    ⟨(some 30), none, .act, .mv (.tmp 1)⟩,
    ⟨(some 31), none, .act, .call 68 [(.tmp 29), (.tmp 30)]⟩,
    ⟨(some 28), none, .act, .mv (.tmp 31)⟩,
    ⟨(some 32), none, .act, .extract (.tmp 28) 0⟩,
    ⟨(some 33), none, .act, .extract (.tmp 28) 1⟩,
    ⟨(some 9), none, .act, .mv (.tmp 32)⟩,
    ⟨(some 10), none, .act, .mv (.tmp 33)⟩])
  (.seq (.region [
    ⟨(some 34), none, .act, .mv (.tmp 0)⟩,
    ⟨(some 35), none, .act, .mv (.tmp 1)⟩,
    ⟨(some 36), none, .act, .bin .add (.tmp 35) (.const (.int .u64 1))⟩,
    ⟨(some 37), none, .act, .mv (.tmp 0)⟩,
    ⟨(some 38), none, .act, .nilCheck (.tmp 37)⟩,
    ⟨(some 39), none, .act, .fieldAddr 4 (.tmp 38)⟩,
    ⟨(some 40), none, .act, .load false 1 (.tmp 39)⟩,
    ⟨(some 41), none, .act, .len (.tmp 40)⟩,
    ⟨(some 42), none, .act, .call 69 [(.tmp 34), (.tmp 36), (.tmp 41)]⟩,
    ⟨(some 11), none, .act, .mv (.tmp 42)⟩])
  (.seq (.region [
    ⟨(some 43), none, .act, .mv (.tmp 0)⟩,
    ⟨(some 44), none, .act, .mv (.tmp 0)⟩,
    ⟨(some 45), none, .act, .mv (.tmp 0)⟩,
    ⟨(some 46), none, .act, .mv (.tmp 1)⟩,
    ⟨(some 47), none, .act, .mv (.tmp 7)⟩,
    ⟨(some 48), none, .act, .mv (.tmp 9)⟩,
    ⟨(some 49), none, .act, .mv (.tmp 2)⟩,
    ⟨(some 50), none, .act, .build [(.int .u64 0), (.int .u64 0), (.slice none 0 0), (.slice none 0 0)] [(0, 1, (.tmp 46)), (1, 1, (.tmp 47)), (2, 1, (.tmp 48)), (3, 1, (.tmp 49))]⟩,
    ⟨(some 51), none, .act, .mv (.tmp 11)⟩,
    ⟨(some 52), none, .act, .nilCheck (.tmp 43)⟩,
    ⟨(some 53), none, .act, .fieldAddr 0 (.tmp 52)⟩,
    ⟨none, none, .act, .store 4 (.tmp 53) (.tmp 50)⟩,
    ⟨(some 54), none, .act, .nilCheck (.tmp 44)⟩,
    ⟨(some 55), none, .act, .fieldAddr 4 (.tmp 54)⟩,
    ⟨none, none, .act, .store 1 (.tmp 55) (.tmp 51)⟩,
    ⟨(some 56), none, .act, .nilCheck (.tmp 45)⟩,
    ⟨(some 57), none, .act, .fieldAddr 6 (.tmp 56)⟩,
    ⟨none, none, .act, .store 1 (.tmp 57) (.const (.bool true))⟩])
  (.seq (.region [
    ⟨(some 6), none, .act, .mv (.const (.int .i64 0))⟩])
  .ret)))))))
theorem res34 : ∃ c, Try.f34.body = some c ∧ resCode Try.prog 58 c = some r34 := ⟨_, rfl, by kernel_rfl⟩
theorem rr34 : resRes Try.prog Try.f34.results.toList = some [.tmp 6] := by kernel_rfl
theorem rcompact_spec (L : Log) (n : Nat) (hL : L.ok n) (hn : n ≤ 100) (i : UInt64) (data : List UInt8) (p : Nat) (h : AHeap) (hp : h p = some (.box L.cells)) :
    ACalls Try.prog 34 [ptr p, u64 i, bys data] h (fun x h' => x = i64 (L.compact i data).2 ∧ h' = h.set p (.box (L.compact i data).1.cells)) := by
  have g1 := hL.len
  have g2 := hL.top
  have hlen : (L.l.map Entry.cells).length = L.l.length := by simp
  have hfirst := rfirst_spec L p h hp
  have hlast := rlast_spec L (by omega) p h hp
  have c67 := rterm_spec L (by omega) i p h hp
  have c68 := told_spec L (fun x hx => Nat.le_trans (hL.small x hx) (by decide)) (by omega) i p h hp
  obtain ⟨c, hc1, hc2⟩ := res34
  refine ACalls.weak (ACalls.enter Try.func34 hc1 Try.ntmps34 hc2 (Nat.le_of_ble_eq_true rfl) rfl ?_)
  by_cases hc : L.s.index + 1 ≤ i ∧ i ≤ L.s.index + UInt64.ofNat L.l.length
  · obtain ⟨hA, hB⟩ := hc
    have hA' := UInt64.le_iff_toNat_le.1 hA
    have hB' := UInt64.le_iff_toNat_le.1 hB
    obtain ⟨n1, n2, n3⟩ := place_in (by omega) (by omega) hA hB
    have hi1 : (i + 1).toNat = i.toNat + 1 := by
      rw [UInt64.toNat_add]
      show (i.toNat + 1) % 18446744073709551616 = _
      exact Nat.mod_eq_of_lt (by omega)
    have hne : i ≠ L.s.index := fun e => by have := congrArg UInt64.toNat e; omega
    have f1 := hL.run.find i (by omega)
    have f2 := hL.run.le i
    have f3 := hL.run.ge (i + 1)
    rw [show i.toNat - L.s.index.toNat - 1 = (i - L.s.index).toNat - 1 by omega] at f1
    rw [show i.toNat - L.s.index.toNat = (i - L.s.index).toNat by omega] at f2
    rw [show (i + 1).toNat - (L.s.index.toNat + 1) = (i - L.s.index).toNat by omega] at f3
    have c69 := rentries_spec L (by omega) (i + 1) (UInt64.le_iff_toNat_le.2 (by omega)) p h hp
    rw [f3, ← hlen] at c69
    rw [f2] at c68
    have hie : (i - L.s.index).toNat - 1 < L.l.length := by omega
    rw [List.getElem?_eq_getElem hie] at f1
    have ht : L.term' i = (L.l[(i - L.s.index).toNat - 1].term, true) := by rw [Log.term', if_neg hne, f1]
    rw [ht] at c67
    have hR : L.compact i data = ({ s := ⟨i, L.l[(i - L.s.index).toNat - 1].term, (told L.zero' (L.l.take (i - L.s.index).toNat)).1, data⟩, l := L.l.drop (i - L.s.index).toNat, dirty := L.dirty, fresh := true }, 0) := by
      rw [Log.compact, if_pos ⟨hA, hB⟩, List.getElem?_eq_getElem hie]
    generalize L.l[(i - L.s.index).toNat - 1].term = t at c67 hR
    generalize told L.zero' (L.l.take (i - L.s.index).toNat) = d at c68 hR
    replace c68 : ACalls Try.prog 68 [ptr p, u64 i] h (fun x h' => x = .tu [u64s d.1, u64 d.2] ∧ h' = h) := c68
    rw [hR]
    repeat' (first
      | refine S.nilK ?_
      | (refine S.op rfl ?_; first
        | refine R.callQ (by decide) rfl hfirst ?_
        | refine R.callQ (by decide) rfl hlast ?_
        | refine R.callQ (by decide) rfl c67 ?_
        | refine R.callQ (by decide) rfl c68 ?_
        | refine R.callQ (by decide) rfl c69 ?_
        | refine R.mv rfl ?_
        | refine R.fieldAddr rfl ?_
        | refine R.fieldAddrR rfl ?_
        | refine R.nilCheck rfl ?_
        | refine R.nilCheckR rfl ?_
        | refine R.loadR rfl rfl ?_
        | refine R.load (by decide) rfl (by (repeat' (first | assumption | exact AHeap.set_same _ _ _ | refine AHeap.get_fresh (by assumption) ?_ | refine AHeap.so ?_ ?_ | exact AHeap.n1 (by assumption) | exact AHeap.n2 (by assumption) | exact AHeap.ne_of (by assumption) (by assumption) | exact AHeap.n4 (by assumption) (by assumption) | exact AHeap.n5 (by assumption) | exact AHeap.n6 (by assumption) | exact AHeap.n7 (by assumption) (by assumption) | exact AHeap.n8 (by assumption) (by assumption))); first | done | fail) rfl ?_
        | refine S.addI rfl rfl (by omega) ?_
        | refine S.subI rfl rfl (by omega) ?_
        | refine S.addU rfl rfl ?_
        | refine S.subU rfl rfl ?_
        | refine S.addUc rfl (by decide) ?_
        | refine S.subUc rfl (by decide) ?_
        | refine S.arith rfl rfl rfl ?_
        | refine R.pickT rfl rfl ?_
        | refine R.pickF rfl rfl ?_
        | refine R.len rfl ?_
        | refine R.lenA rfl ?_
        | refine R.lenStr rfl ?_
        | refine S.convIU rfl (by omega) ?_
        | refine S.convUI rfl (by omega) ?_
        | refine R.convInt rfl ?_
        | refine R.not rfl ?_
        | refine R.eqPtrNil rfl rfl ?_
        | refine R.extract rfl rfl ?_
        | refine R.field rfl rfl ?_
        | refine R.alloc rfl (fun b hb => ?_)
        | refine R.box rfl rfl rfl (fun b hb => ?_)
        | refine R.build rfl rfl ?_
        | refine R.buildSl rfl rfl rfl (by decide) ?_
        | refine R.toStr rfl ?_
        | refine R.convStr rfl ?_
        | refine R.minmax rfl ?_
        | refine R.makeFunc rfl rfl ?_
        | (first | refine S.lss rfl rfl (fun hlt => ?_) (fun hlt => by exfalso; omega) | refine S.lss rfl rfl (fun hlt => by exfalso; omega) (fun hlt => ?_) | refine S.lss rfl rfl (fun hlt => ?_) (fun hlt => ?_))
        | (first | refine S.gtr rfl rfl (fun hlt => ?_) (fun hlt => by exfalso; omega) | refine S.gtr rfl rfl (fun hlt => by exfalso; omega) (fun hlt => ?_) | refine S.gtr rfl rfl (fun hlt => ?_) (fun hlt => ?_))
        | (first | refine S.leq rfl rfl (fun hlt => ?_) (fun hlt => by exfalso; omega) | refine S.leq rfl rfl (fun hlt => by exfalso; omega) (fun hlt => ?_) | refine S.leq rfl rfl (fun hlt => ?_) (fun hlt => ?_))
        | (first | refine S.geq rfl rfl (fun hlt => ?_) (fun hlt => by exfalso; omega) | refine S.geq rfl rfl (fun hlt => by exfalso; omega) (fun hlt => ?_) | refine S.geq rfl rfl (fun hlt => ?_) (fun hlt => ?_))
        | (first | refine S.eqInt rfl rfl (fun hlt => ?_) (fun hlt => by exfalso; omega) | refine S.eqInt rfl rfl (fun hlt => by exfalso; omega) (fun hlt => ?_) | refine S.eqInt rfl rfl (fun hlt => ?_) (fun hlt => ?_)))
      | (refine S.op0 rfl ?_; first | refine S.storeS rfl rfl rfl (by rfl) rfl (by first | decide | exact Nat.le_refl _ | exact Nat.le_of_ble_eq_true rfl) ?_ | refine S.store rfl rfl (by (repeat' (first | assumption | exact AHeap.set_same _ _ _ | refine AHeap.get_fresh (by assumption) ?_ | refine AHeap.so ?_ ?_ | exact AHeap.n1 (by assumption) | exact AHeap.n2 (by assumption) | exact AHeap.ne_of (by assumption) (by assumption) | exact AHeap.n4 (by assumption) (by assumption) | exact AHeap.n5 (by assumption) | exact AHeap.n6 (by assumption) | exact AHeap.n7 (by assumption) (by assumption) | exact AHeap.n8 (by assumption) (by assumption))); first | done | fail) rfl rfl rfl (by rfl) rfl ?_)
      | refine S.skip rfl ?_
      | refine S.skip0 rfl ?_
      | refine S.seq ?_
      | refine S.region ?_
      | refine S.regionT ?_
      | refine S.tstep ?_
      | refine S.talt ?_ ?_
      | exact S.tstop
      | refine S.tdone ?_
      | refine S.condT rfl ?_
      | refine S.condF rfl ?_
      | refine RRun.skip ?_
      | refine RRun.block ?_
      | refine RRun.inBlock ?_
      | refine RRun.exit rfl ?_)
    apply S.ret rr34
    case hx => repeat (first | exact ResAt.nil | apply ResAt.tmp rfl | apply ResAt.cellA rfl (by (repeat' (first | assumption | exact AHeap.set_same _ _ _ | refine AHeap.get_fresh (by assumption) ?_ | refine AHeap.so ?_ ?_ | exact AHeap.n1 (by assumption) | exact AHeap.n2 (by assumption) | exact AHeap.ne_of (by assumption) (by assumption) | exact AHeap.n4 (by assumption) (by assumption) | exact AHeap.n5 (by assumption) | exact AHeap.n6 (by assumption) | exact AHeap.n7 (by assumption) (by assumption) | exact AHeap.n8 (by assumption) (by assumption))); first | done | fail) (by rfl) | apply ResAt.cell1 rfl (by (repeat' (first | assumption | exact AHeap.set_same _ _ _ | refine AHeap.get_fresh (by assumption) ?_ | refine AHeap.so ?_ ?_ | exact AHeap.n1 (by assumption) | exact AHeap.n2 (by assumption) | exact AHeap.ne_of (by assumption) (by assumption) | exact AHeap.n4 (by assumption) (by assumption) | exact AHeap.n5 (by assumption) | exact AHeap.n6 (by assumption) | exact AHeap.n7 (by assumption) (by assumption) | exact AHeap.n8 (by assumption) (by assumption))); first | done | fail) (by rfl))
    exact ⟨_, _, .refl _, .refl _, rfl, rfl⟩
  · have hc' : ¬ ((L.s.index + 1).toNat ≤ i.toNat ∧ i.toNat ≤ (L.s.index + UInt64.ofNat L.l.length).toNat) := fun ⟨a, b⟩ => hc ⟨UInt64.le_iff_toNat_le.2 a, UInt64.le_iff_toNat_le.2 b⟩
    repeat' (first
      | refine S.nilK ?_
      | (refine S.op rfl ?_; first
        | refine R.callQ (by decide) rfl hfirst ?_
        | refine R.callQ (by decide) rfl hlast ?_
        | refine R.mv rfl ?_
        | refine R.fieldAddr rfl ?_
        | refine R.fieldAddrR rfl ?_
        | refine R.nilCheck rfl ?_
        | refine R.nilCheckR rfl ?_
        | refine R.loadR rfl rfl ?_
        | refine R.load (by decide) rfl (by (repeat' (first | assumption | exact AHeap.set_same _ _ _ | refine AHeap.get_fresh (by assumption) ?_ | refine AHeap.so ?_ ?_ | exact AHeap.n1 (by assumption) | exact AHeap.n2 (by assumption) | exact AHeap.ne_of (by assumption) (by assumption) | exact AHeap.n4 (by assumption) (by assumption) | exact AHeap.n5 (by assumption) | exact AHeap.n6 (by assumption) | exact AHeap.n7 (by assumption) (by assumption) | exact AHeap.n8 (by assumption) (by assumption))); first | done | fail) rfl ?_
        | refine S.addI rfl rfl (by omega) ?_
        | refine S.subI rfl rfl (by omega) ?_
        | refine S.addU rfl rfl ?_
        | refine S.subU rfl rfl ?_
        | refine S.addUc rfl (by decide) ?_
        | refine S.subUc rfl (by decide) ?_
        | refine S.arith rfl rfl rfl ?_
        | refine R.pickT rfl rfl ?_
        | refine R.pickF rfl rfl ?_
        | refine R.len rfl ?_
        | refine R.lenA rfl ?_
        | refine R.lenStr rfl ?_
        | refine S.convIU rfl (by omega) ?_
        | refine S.convUI rfl (by omega) ?_
        | refine R.convInt rfl ?_
        | refine R.not rfl ?_
        | refine R.eqPtrNil rfl rfl ?_
        | refine R.extract rfl rfl ?_
        | refine R.field rfl rfl ?_
        | refine R.alloc rfl (fun b hb => ?_)
        | refine R.box rfl rfl rfl (fun b hb => ?_)
        | refine R.build rfl rfl ?_
        | refine R.buildSl rfl rfl rfl (by decide) ?_
        | refine R.toStr rfl ?_
        | refine R.convStr rfl ?_
        | refine R.minmax rfl ?_
        | refine R.makeFunc rfl rfl ?_
        | (first | refine S.lss rfl rfl (fun hlt => ?_) (fun hlt => by exfalso; omega) | refine S.lss rfl rfl (fun hlt => by exfalso; omega) (fun hlt => ?_) | refine S.lss rfl rfl (fun hlt => ?_) (fun hlt => ?_))
        | (first | refine S.gtr rfl rfl (fun hlt => ?_) (fun hlt => by exfalso; omega) | refine S.gtr rfl rfl (fun hlt => by exfalso; omega) (fun hlt => ?_) | refine S.gtr rfl rfl (fun hlt => ?_) (fun hlt => ?_))
        | (first | refine S.leq rfl rfl (fun hlt => ?_) (fun hlt => by exfalso; omega) | refine S.leq rfl rfl (fun hlt => by exfalso; omega) (fun hlt => ?_) | refine S.leq rfl rfl (fun hlt => ?_) (fun hlt => ?_))
        | (first | refine S.geq rfl rfl (fun hlt => ?_) (fun hlt => by exfalso; omega) | refine S.geq rfl rfl (fun hlt => by exfalso; omega) (fun hlt => ?_) | refine S.geq rfl rfl (fun hlt => ?_) (fun hlt => ?_))
        | (first | refine S.eqInt rfl rfl (fun hlt => ?_) (fun hlt => by exfalso; omega) | refine S.eqInt rfl rfl (fun hlt => by exfalso; omega) (fun hlt => ?_) | refine S.eqInt rfl rfl (fun hlt => ?_) (fun hlt => ?_)))
      | (refine S.op0 rfl ?_; first | refine S.storeS rfl rfl rfl (by rfl) rfl (by first | decide | exact Nat.le_refl _ | exact Nat.le_of_ble_eq_true rfl) ?_ | refine S.store rfl rfl (by (repeat' (first | assumption | exact AHeap.set_same _ _ _ | refine AHeap.get_fresh (by assumption) ?_ | refine AHeap.so ?_ ?_ | exact AHeap.n1 (by assumption) | exact AHeap.n2 (by assumption) | exact AHeap.ne_of (by assumption) (by assumption) | exact AHeap.n4 (by assumption) (by assumption) | exact AHeap.n5 (by assumption) | exact AHeap.n6 (by assumption) | exact AHeap.n7 (by assumption) (by assumption) | exact AHeap.n8 (by assumption) (by assumption))); first | done | fail) rfl rfl rfl (by rfl) rfl ?_)
      | refine S.skip rfl ?_
      | refine S.skip0 rfl ?_
      | refine S.seq ?_
      | refine S.region ?_
      | refine S.regionT ?_
      | refine S.tstep ?_
      | refine S.talt ?_ ?_
      | exact S.tstop
      | refine S.tdone ?_
      | refine S.condT rfl ?_
      | refine S.condF rfl ?_
      | refine RRun.skip ?_
      | refine RRun.block ?_
      | refine RRun.inBlock ?_
      | refine RRun.exit rfl ?_)
    all_goals
      apply S.ret rr34
      case hx => repeat (first | exact ResAt.nil | apply ResAt.tmp rfl | apply ResAt.cellA rfl (by (repeat' (first | assumption | exact AHeap.set_same _ _ _ | refine AHeap.get_fresh (by assumption) ?_ | refine AHeap.so ?_ ?_ | exact AHeap.n1 (by assumption) | exact AHeap.n2 (by assumption) | exact AHeap.ne_of (by assumption) (by assumption) | exact AHeap.n4 (by assumption) (by assumption) | exact AHeap.n5 (by assumption) | exact AHeap.n6 (by assumption) | exact AHeap.n7 (by assumption) (by assumption) | exact AHeap.n8 (by assumption) (by assumption))); first | done | fail) (by rfl) | apply ResAt.cell1 rfl (by (repeat' (first | assumption | exact AHeap.set_same _ _ _ | refine AHeap.get_fresh (by assumption) ?_ | refine AHeap.so ?_ ?_ | exact AHeap.n1 (by assumption) | exact AHeap.n2 (by assumption) | exact AHeap.ne_of (by assumption) (by assumption) | exact AHeap.n4 (by assumption) (by assumption) | exact AHeap.n5 (by assumption) | exact AHeap.n6 (by assumption) | exact AHeap.n7 (by assumption) (by assumption) | exact AHeap.n8 (by assumption) (by assumption))); first | done | fail) (by rfl))
      refine ⟨_, _, .refl _, ?_, ?_, rfl⟩
      · rw [Log.compact, if_neg hc, AHeap.set_eq h hp]; exact .refl _
      · rw [Log.compact, if_neg hc]; rfl

end Go.Proofs.Ytnmgamcmjjngcaa
