import Derived.Test.YtcghjnkepooofaaGreatW3
set_option linter.unusedVariables false
set_option linter.unusedSimpArgs false
namespace Go.Proofs.YtcghjnkepooofaaGreat
open Go.Av

def nilP : AV := .v (.pointer none)
def zI : AV := .v (.int .i64 0)
def zU : AV := .v (.int .u64 0)
def eRange : AV := .v (.int .i64 1)
def nilS : AV := .v (.slice none 0 0)
def ff : AV := .v (.bool false)

theorem ok_nil (h : AHeap) : ACalls Tryz.prog 20 [nilP] h (fun x h' => x = ff ∧ h' = h) := by
  obtain ⟨c, hc1, hc2⟩ := res20
  refine ACalls.weak (ACalls.enter Tryz.func20 hc1 Tryz.ntmps20 hc2 (Nat.le_of_ble_eq_true rfl) rfl ?_)
  repeat' (first
    | refine S.nilK ?_
    | (refine S.op rfl ?_; first
      | refine R.mv rfl ?_
      | refine R.fieldAddr rfl ?_
      | refine R.fieldAddrR rfl ?_
      | refine R.nilCheck rfl ?_
      | refine R.nilCheckR rfl ?_
      | refine R.loadR rfl rfl ?_
      | refine R.load (by decide) rfl (by (repeat' (first | assumption | exact AHeap.set_same _ _ _ | refine AHeap.get_fresh (by assumption) ?_ | (refine (AHeap.set_other _ _ ?_).trans ?_; first | exact (AHeap.fresh_set (by assumption)).1 | exact Ne.symm (AHeap.fresh_set (by assumption)).1 | exact AHeap.ne_of (by assumption) (by assumption) | exact Ne.symm (AHeap.ne_of (by assumption) (by assumption)) | exact (AHeap.fresh_set (AHeap.fresh_set (by assumption)).2).1 | exact Ne.symm (AHeap.fresh_set (AHeap.fresh_set (by assumption)).2).1 | exact AHeap.ne_of (AHeap.fresh_set (by assumption)).2 (by assumption) | exact Ne.symm (AHeap.ne_of (AHeap.fresh_set (by assumption)).2 (by assumption)) | assumption | skip) | exact (AHeap.fresh_set (by assumption)).1 | exact Ne.symm (AHeap.fresh_set (by assumption)).1 | exact AHeap.ne_of (by assumption) (by assumption) | exact Ne.symm (AHeap.ne_of (by assumption) (by assumption)) | exact (AHeap.fresh_set (AHeap.fresh_set (by assumption)).2).1 | exact Ne.symm (AHeap.fresh_set (AHeap.fresh_set (by assumption)).2).1 | exact AHeap.ne_of (AHeap.fresh_set (by assumption)).2 (by assumption) | exact Ne.symm (AHeap.ne_of (AHeap.fresh_set (by assumption)).2 (by assumption)))); first | done | fail) rfl ?_
      | refine S.addI rfl rfl (by omega) ?_
      | refine S.subI rfl rfl (by omega) ?_
      | refine S.addU rfl rfl ?_
      | refine S.subU rfl rfl ?_
      | refine S.addUc rfl (by decide) ?_
      | refine S.subUc rfl (by decide) ?_
      | refine S.arith rfl rfl rfl ?_
      | refine R.pickT rfl rfl ?_
      | refine R.pickF rfl rfl ?_
      | refine R.len rfl ?_
      | refine R.lenA rfl ?_
      | refine R.lenStr rfl ?_
      | refine S.convIU rfl (by omega) ?_
      | refine S.convUI rfl (by omega) ?_
      | refine R.convInt rfl ?_
      | refine R.not rfl ?_
      | refine R.eqPtrNil rfl rfl ?_
      | refine R.extract rfl rfl ?_
      | refine R.field rfl rfl ?_
      | refine R.alloc rfl (fun b hb => ?_)
      | refine R.box rfl rfl rfl (fun b hb => ?_)
      | refine R.build rfl rfl ?_
      | refine R.buildSl rfl rfl rfl (by decide) ?_
      | refine R.toStr rfl ?_
      | refine R.convStr rfl ?_
      | refine R.minmax rfl ?_
      | refine R.makeFunc rfl rfl ?_
      | (first | refine S.lss rfl rfl (fun hlt => ?_) (fun hlt => by exfalso; omega) | refine S.lss rfl rfl (fun hlt => by exfalso; omega) (fun hlt => ?_) | refine S.lss rfl rfl (fun hlt => ?_) (fun hlt => ?_))
      | (first | refine S.gtr rfl rfl (fun hlt => ?_) (fun hlt => by exfalso; omega) | refine S.gtr rfl rfl (fun hlt => by exfalso; omega) (fun hlt => ?_) | refine S.gtr rfl rfl (fun hlt => ?_) (fun hlt => ?_))
      | (first | refine S.leq rfl rfl (fun hlt => ?_) (fun hlt => by exfalso; omega) | refine S.leq rfl rfl (fun hlt => by exfalso; omega) (fun hlt => ?_) | refine S.leq rfl rfl (fun hlt => ?_) (fun hlt => ?_))
      | (first | refine S.geq rfl rfl (fun hlt => ?_) (fun hlt => by exfalso; omega) | refine S.geq rfl rfl (fun hlt => by exfalso; omega) (fun hlt => ?_) | refine S.geq rfl rfl (fun hlt => ?_) (fun hlt => ?_))
      | (first | refine S.eqInt rfl rfl (fun hlt => ?_) (fun hlt => by exfalso; omega) | refine S.eqInt rfl rfl (fun hlt => by exfalso; omega) (fun hlt => ?_) | refine S.eqInt rfl rfl (fun hlt => ?_) (fun hlt => ?_)))
    | (refine S.op0 rfl ?_; first | refine S.storeS rfl rfl rfl (by rfl) rfl (by first | decide | exact Nat.le_refl _ | exact Nat.le_of_ble_eq_true rfl) ?_ | refine S.store rfl rfl (by (repeat' (first | assumption | exact AHeap.set_same _ _ _ | refine AHeap.get_fresh (by assumption) ?_ | (refine (AHeap.set_other _ _ ?_).trans ?_; first | exact (AHeap.fresh_set (by assumption)).1 | exact Ne.symm (AHeap.fresh_set (by assumption)).1 | exact AHeap.ne_of (by assumption) (by assumption) | exact Ne.symm (AHeap.ne_of (by assumption) (by assumption)) | exact (AHeap.fresh_set (AHeap.fresh_set (by assumption)).2).1 | exact Ne.symm (AHeap.fresh_set (AHeap.fresh_set (by assumption)).2).1 | exact AHeap.ne_of (AHeap.fresh_set (by assumption)).2 (by assumption) | exact Ne.symm (AHeap.ne_of (AHeap.fresh_set (by assumption)).2 (by assumption)) | assumption | skip) | exact (AHeap.fresh_set (by assumption)).1 | exact Ne.symm (AHeap.fresh_set (by assumption)).1 | exact AHeap.ne_of (by assumption) (by assumption) | exact Ne.symm (AHeap.ne_of (by assumption) (by assumption)) | exact (AHeap.fresh_set (AHeap.fresh_set (by assumption)).2).1 | exact Ne.symm (AHeap.fresh_set (AHeap.fresh_set (by assumption)).2).1 | exact AHeap.ne_of (AHeap.fresh_set (by assumption)).2 (by assumption) | exact Ne.symm (AHeap.ne_of (AHeap.fresh_set (by assumption)).2 (by assumption)))); first | done | fail) rfl rfl rfl (by rfl) rfl ?_)
    | refine S.skip rfl ?_
    | refine S.skip0 rfl ?_
    | refine S.seq ?_
    | refine S.region ?_
    | refine S.regionT ?_
    | refine S.tstep ?_
    | refine S.talt ?_ ?_
    | exact S.tstop
    | refine S.tdone ?_
    | refine S.condT rfl ?_
    | refine S.condF rfl ?_
    | refine RRun.skip ?_
    | refine RRun.block ?_
    | refine RRun.inBlock ?_
    | refine RRun.exit rfl ?_)
  apply S.ret rr20
  case hx => repeat (first | exact ResAt.nil | apply ResAt.tmp rfl | apply ResAt.cellA rfl (by (repeat' (first | assumption | exact AHeap.set_same _ _ _ | refine AHeap.get_fresh (by assumption) ?_ | (refine (AHeap.set_other _ _ ?_).trans ?_; first | exact (AHeap.fresh_set (by assumption)).1 | exact Ne.symm (AHeap.fresh_set (by assumption)).1 | exact AHeap.ne_of (by assumption) (by assumption) | exact Ne.symm (AHeap.ne_of (by assumption) (by assumption)) | exact (AHeap.fresh_set (AHeap.fresh_set (by assumption)).2).1 | exact Ne.symm (AHeap.fresh_set (AHeap.fresh_set (by assumption)).2).1 | exact AHeap.ne_of (AHeap.fresh_set (by assumption)).2 (by assumption) | exact Ne.symm (AHeap.ne_of (AHeap.fresh_set (by assumption)).2 (by assumption)) | assumption | skip) | exact (AHeap.fresh_set (by assumption)).1 | exact Ne.symm (AHeap.fresh_set (by assumption)).1 | exact AHeap.ne_of (by assumption) (by assumption) | exact Ne.symm (AHeap.ne_of (by assumption) (by assumption)) | exact (AHeap.fresh_set (AHeap.fresh_set (by assumption)).2).1 | exact Ne.symm (AHeap.fresh_set (AHeap.fresh_set (by assumption)).2).1 | exact AHeap.ne_of (AHeap.fresh_set (by assumption)).2 (by assumption) | exact Ne.symm (AHeap.ne_of (AHeap.fresh_set (by assumption)).2 (by assumption)))); first | done | fail) (by rfl) | apply ResAt.cell1 rfl (by (repeat' (first | assumption | exact AHeap.set_same _ _ _ | refine AHeap.get_fresh (by assumption) ?_ | (refine (AHeap.set_other _ _ ?_).trans ?_; first | exact (AHeap.fresh_set (by assumption)).1 | exact Ne.symm (AHeap.fresh_set (by assumption)).1 | exact AHeap.ne_of (by assumption) (by assumption) | exact Ne.symm (AHeap.ne_of (by assumption) (by assumption)) | exact (AHeap.fresh_set (AHeap.fresh_set (by assumption)).2).1 | exact Ne.symm (AHeap.fresh_set (AHeap.fresh_set (by assumption)).2).1 | exact AHeap.ne_of (AHeap.fresh_set (by assumption)).2 (by assumption) | exact Ne.symm (AHeap.ne_of (AHeap.fresh_set (by assumption)).2 (by assumption)) | assumption | skip) | exact (AHeap.fresh_set (by assumption)).1 | exact Ne.symm (AHeap.fresh_set (by assumption)).1 | exact AHeap.ne_of (by assumption) (by assumption) | exact Ne.symm (AHeap.ne_of (by assumption) (by assumption)) | exact (AHeap.fresh_set (AHeap.fresh_set (by assumption)).2).1 | exact Ne.symm (AHeap.fresh_set (AHeap.fresh_set (by assumption)).2).1 | exact AHeap.ne_of (AHeap.fresh_set (by assumption)).2 (by assumption) | exact Ne.symm (AHeap.ne_of (AHeap.fresh_set (by assumption)).2 (by assumption)))); first | done | fail) (by rfl))
  exact ⟨_, _, .refl _, (by repeat (first | exact AHeap.le.refl _ | refine AHeap.le.set ?_ _ (by (repeat' (first | assumption | exact (AHeap.fresh_set (by assumption)).2 | exact (AHeap.fresh_set (AHeap.fresh_set (by assumption)).2).2 | exact (AHeap.fresh_set (AHeap.fresh_set (AHeap.fresh_set (by assumption)).2).2).2 | refine (AHeap.set_other _ _ ?_).trans ?_ | exact (AHeap.fresh_set (by assumption)).1 | exact Ne.symm (AHeap.fresh_set (by assumption)).1 | exact AHeap.ne_of (by assumption) (by assumption) | exact Ne.symm (AHeap.ne_of (by assumption) (by assumption)) | exact (AHeap.fresh_set (AHeap.fresh_set (by assumption)).2).1 | exact Ne.symm (AHeap.fresh_set (AHeap.fresh_set (by assumption)).2).1 | exact AHeap.ne_of (AHeap.fresh_set (by assumption)).2 (by assumption) | exact Ne.symm (AHeap.ne_of (AHeap.fresh_set (by assumption)).2 (by assumption)))); first | done | fail) | refine AHeap.le.both ?_ _ _)), rfl, rfl⟩

theorem nil6 (d : UInt64) (h : AHeap) : ACalls Tryz.prog 6 [nilP, u64 d] h (fun x h' => x = .tu [] ∧ h' = h) := by
  obtain ⟨c, hc1, hc2⟩ := res6
  refine ACalls.weak (ACalls.enter Tryz.func6 hc1 Tryz.ntmps6 hc2 (Nat.le_of_ble_eq_true rfl) rfl ?_)
  repeat' (first
    | refine S.nilK ?_
    | (refine S.op rfl ?_; first
      | refine R.callQ (by decide) rfl (ok_nil _) ?_
      | refine R.mv rfl ?_
      | refine R.fieldAddr rfl ?_
      | refine R.fieldAddrR rfl ?_
      | refine R.nilCheck rfl ?_
      | refine R.nilCheckR rfl ?_
      | refine R.loadR rfl rfl ?_
      | refine R.load (by decide) rfl (by (repeat' (first | assumption | exact AHeap.set_same _ _ _ | refine AHeap.get_fresh (by assumption) ?_ | (refine (AHeap.set_other _ _ ?_).trans ?_; first | exact (AHeap.fresh_set (by assumption)).1 | exact Ne.symm (AHeap.fresh_set (by assumption)).1 | exact AHeap.ne_of (by assumption) (by assumption) | exact Ne.symm (AHeap.ne_of (by assumption) (by assumption)) | exact (AHeap.fresh_set (AHeap.fresh_set (by assumption)).2).1 | exact Ne.symm (AHeap.fresh_set (AHeap.fresh_set (by assumption)).2).1 | exact AHeap.ne_of (AHeap.fresh_set (by assumption)).2 (by assumption) | exact Ne.symm (AHeap.ne_of (AHeap.fresh_set (by assumption)).2 (by assumption)) | assumption | skip) | exact (AHeap.fresh_set (by assumption)).1 | exact Ne.symm (AHeap.fresh_set (by assumption)).1 | exact AHeap.ne_of (by assumption) (by assumption) | exact Ne.symm (AHeap.ne_of (by assumption) (by assumption)) | exact (AHeap.fresh_set (AHeap.fresh_set (by assumption)).2).1 | exact Ne.symm (AHeap.fresh_set (AHeap.fresh_set (by assumption)).2).1 | exact AHeap.ne_of (AHeap.fresh_set (by assumption)).2 (by assumption) | exact Ne.symm (AHeap.ne_of (AHeap.fresh_set (by assumption)).2 (by assumption)))); first | done | fail) rfl ?_
      | refine S.addI rfl rfl (by omega) ?_
      | refine S.subI rfl rfl (by omega) ?_
      | refine S.addU rfl rfl ?_
      | refine S.subU rfl rfl ?_
      | refine S.addUc rfl (by decide) ?_
      | refine S.subUc rfl (by decide) ?_
      | refine S.arith rfl rfl rfl ?_
      | refine R.pickT rfl rfl ?_
      | refine R.pickF rfl rfl ?_
      | refine R.len rfl ?_
      | refine R.lenA rfl ?_
      | refine R.lenStr rfl ?_
      | refine S.convIU rfl (by omega) ?_
      | refine S.convUI rfl (by omega) ?_
      | refine R.convInt rfl ?_
      | refine R.not rfl ?_
      | refine R.eqPtrNil rfl rfl ?_
      | refine R.extract rfl rfl ?_
      | refine R.field rfl rfl ?_
      | refine R.alloc rfl (fun b hb => ?_)
      | refine R.box rfl rfl rfl (fun b hb => ?_)
      | refine R.build rfl rfl ?_
      | refine R.buildSl rfl rfl rfl (by decide) ?_
      | refine R.toStr rfl ?_
      | refine R.convStr rfl ?_
      | refine R.minmax rfl ?_
      | refine R.makeFunc rfl rfl ?_
      | (first | refine S.lss rfl rfl (fun hlt => ?_) (fun hlt => by exfalso; omega) | refine S.lss rfl rfl (fun hlt => by exfalso; omega) (fun hlt => ?_) | refine S.lss rfl rfl (fun hlt => ?_) (fun hlt => ?_))
      | (first | refine S.gtr rfl rfl (fun hlt => ?_) (fun hlt => by exfalso; omega) | refine S.gtr rfl rfl (fun hlt => by exfalso; omega) (fun hlt => ?_) | refine S.gtr rfl rfl (fun hlt => ?_) (fun hlt => ?_))
      | (first | refine S.leq rfl rfl (fun hlt => ?_) (fun hlt => by exfalso; omega) | refine S.leq rfl rfl (fun hlt => by exfalso; omega) (fun hlt => ?_) | refine S.leq rfl rfl (fun hlt => ?_) (fun hlt => ?_))
      | (first | refine S.geq rfl rfl (fun hlt => ?_) (fun hlt => by exfalso; omega) | refine S.geq rfl rfl (fun hlt => by exfalso; omega) (fun hlt => ?_) | refine S.geq rfl rfl (fun hlt => ?_) (fun hlt => ?_))
      | (first | refine S.eqInt rfl rfl (fun hlt => ?_) (fun hlt => by exfalso; omega) | refine S.eqInt rfl rfl (fun hlt => by exfalso; omega) (fun hlt => ?_) | refine S.eqInt rfl rfl (fun hlt => ?_) (fun hlt => ?_)))
    | (refine S.op0 rfl ?_; first | refine S.storeS rfl rfl rfl (by rfl) rfl (by first | decide | exact Nat.le_refl _ | exact Nat.le_of_ble_eq_true rfl) ?_ | refine S.store rfl rfl (by (repeat' (first | assumption | exact AHeap.set_same _ _ _ | refine AHeap.get_fresh (by assumption) ?_ | (refine (AHeap.set_other _ _ ?_).trans ?_; first | exact (AHeap.fresh_set (by assumption)).1 | exact Ne.symm (AHeap.fresh_set (by assumption)).1 | exact AHeap.ne_of (by assumption) (by assumption) | exact Ne.symm (AHeap.ne_of (by assumption) (by assumption)) | exact (AHeap.fresh_set (AHeap.fresh_set (by assumption)).2).1 | exact Ne.symm (AHeap.fresh_set (AHeap.fresh_set (by assumption)).2).1 | exact AHeap.ne_of (AHeap.fresh_set (by assumption)).2 (by assumption) | exact Ne.symm (AHeap.ne_of (AHeap.fresh_set (by assumption)).2 (by assumption)) | assumption | skip) | exact (AHeap.fresh_set (by assumption)).1 | exact Ne.symm (AHeap.fresh_set (by assumption)).1 | exact AHeap.ne_of (by assumption) (by assumption) | exact Ne.symm (AHeap.ne_of (by assumption) (by assumption)) | exact (AHeap.fresh_set (AHeap.fresh_set (by assumption)).2).1 | exact Ne.symm (AHeap.fresh_set (AHeap.fresh_set (by assumption)).2).1 | exact AHeap.ne_of (AHeap.fresh_set (by assumption)).2 (by assumption) | exact Ne.symm (AHeap.ne_of (AHeap.fresh_set (by assumption)).2 (by assumption)))); first | done | fail) rfl rfl rfl (by rfl) rfl ?_)
    | refine S.skip rfl ?_
    | refine S.skip0 rfl ?_
    | refine S.seq ?_
    | refine S.region ?_
    | refine S.regionT ?_
    | refine S.tstep ?_
    | refine S.talt ?_ ?_
    | exact S.tstop
    | refine S.tdone ?_
    | refine S.condT rfl ?_
    | refine S.condF rfl ?_
    | refine RRun.skip ?_
    | refine RRun.block ?_
    | refine RRun.inBlock ?_
    | refine RRun.exit rfl ?_)
  apply S.ret rr6
  case hx => repeat (first | exact ResAt.nil | apply ResAt.tmp rfl | apply ResAt.cellA rfl (by (repeat' (first | assumption | exact AHeap.set_same _ _ _ | refine AHeap.get_fresh (by assumption) ?_ | (refine (AHeap.set_other _ _ ?_).trans ?_; first | exact (AHeap.fresh_set (by assumption)).1 | exact Ne.symm (AHeap.fresh_set (by assumption)).1 | exact AHeap.ne_of (by assumption) (by assumption) | exact Ne.symm (AHeap.ne_of (by assumption) (by assumption)) | exact (AHeap.fresh_set (AHeap.fresh_set (by assumption)).2).1 | exact Ne.symm (AHeap.fresh_set (AHeap.fresh_set (by assumption)).2).1 | exact AHeap.ne_of (AHeap.fresh_set (by assumption)).2 (by assumption) | exact Ne.symm (AHeap.ne_of (AHeap.fresh_set (by assumption)).2 (by assumption)) | assumption | skip) | exact (AHeap.fresh_set (by assumption)).1 | exact Ne.symm (AHeap.fresh_set (by assumption)).1 | exact AHeap.ne_of (by assumption) (by assumption) | exact Ne.symm (AHeap.ne_of (by assumption) (by assumption)) | exact (AHeap.fresh_set (AHeap.fresh_set (by assumption)).2).1 | exact Ne.symm (AHeap.fresh_set (AHeap.fresh_set (by assumption)).2).1 | exact AHeap.ne_of (AHeap.fresh_set (by assumption)).2 (by assumption) | exact Ne.symm (AHeap.ne_of (AHeap.fresh_set (by assumption)).2 (by assumption)))); first | done | fail) (by rfl) | apply ResAt.cell1 rfl (by (repeat' (first | assumption | exact AHeap.set_same _ _ _ | refine AHeap.get_fresh (by assumption) ?_ | (refine (AHeap.set_other _ _ ?_).trans ?_; first | exact (AHeap.fresh_set (by assumption)).1 | exact Ne.symm (AHeap.fresh_set (by assumption)).1 | exact AHeap.ne_of (by assumption) (by assumption) | exact Ne.symm (AHeap.ne_of (by assumption) (by assumption)) | exact (AHeap.fresh_set (AHeap.fresh_set (by assumption)).2).1 | exact Ne.symm (AHeap.fresh_set (AHeap.fresh_set (by assumption)).2).1 | exact AHeap.ne_of (AHeap.fresh_set (by assumption)).2 (by assumption) | exact Ne.symm (AHeap.ne_of (AHeap.fresh_set (by assumption)).2 (by assumption)) | assumption | skip) | exact (AHeap.fresh_set (by assumption)).1 | exact Ne.symm (AHeap.fresh_set (by assumption)).1 | exact AHeap.ne_of (by assumption) (by assumption) | exact Ne.symm (AHeap.ne_of (by assumption) (by assumption)) | exact (AHeap.fresh_set (AHeap.fresh_set (by assumption)).2).1 | exact Ne.symm (AHeap.fresh_set (AHeap.fresh_set (by assumption)).2).1 | exact AHeap.ne_of (AHeap.fresh_set (by assumption)).2 (by assumption) | exact Ne.symm (AHeap.ne_of (AHeap.fresh_set (by assumption)).2 (by assumption)))); first | done | fail) (by rfl))
  exact ⟨_, _, .refl _, (by repeat (first | exact AHeap.le.refl _ | refine AHeap.le.set ?_ _ (by (repeat' (first | assumption | exact (AHeap.fresh_set (by assumption)).2 | exact (AHeap.fresh_set (AHeap.fresh_set (by assumption)).2).2 | exact (AHeap.fresh_set (AHeap.fresh_set (AHeap.fresh_set (by assumption)).2).2).2 | refine (AHeap.set_other _ _ ?_).trans ?_ | exact (AHeap.fresh_set (by assumption)).1 | exact Ne.symm (AHeap.fresh_set (by assumption)).1 | exact AHeap.ne_of (by assumption) (by assumption) | exact Ne.symm (AHeap.ne_of (by assumption) (by assumption)) | exact (AHeap.fresh_set (AHeap.fresh_set (by assumption)).2).1 | exact Ne.symm (AHeap.fresh_set (AHeap.fresh_set (by assumption)).2).1 | exact AHeap.ne_of (AHeap.fresh_set (by assumption)).2 (by assumption) | exact Ne.symm (AHeap.ne_of (AHeap.fresh_set (by assumption)).2 (by assumption)))); first | done | fail) | refine AHeap.le.both ?_ _ _)), rfl, rfl⟩

/-- (*plenum/raft.Node).Step -/
def r7 : RCode :=
  (.seq (.region [
    ⟨(some 3), none, .act, .box (.tmp 1)⟩])
  (.seq (.seq (.region [
    ⟨(some 4), none, .pure, .mv (.tmp 0)⟩,
    ⟨(some 5), none, .act, .call 20 [(.tmp 4)]⟩,
    ⟨(some 6), none, .pure, .un .not (.tmp 5)⟩,
    ⟨(some 7), none, .pure, .mv (.tmp 6)⟩,
    ⟨(some 8), (some (7, false)), .pure, .fieldAddr 2 (.tmp 3)⟩,
    ⟨(some 9), (some (7, false)), .read, .load false 1 (.tmp 8)⟩,
    ⟨(some 10), (some (7, false)), .pure, .mv (.tmp 0)⟩,
    ⟨(some 11), (some (7, false)), .pure, .nilCheck (.tmp 10)⟩,
    ⟨(some 12), (some (7, false)), .pure, .fieldAddr 0 (.tmp 11)⟩,
    ⟨(some 13), (some (7, false)), .read, .load false 1 (.tmp 12)⟩,
    ⟨(some 14), (some (7, false)), .pure, .eq true .int (.tmp 9) (.tmp 13)⟩,
    ⟨(some 15), none, .pure, .pick (.tmp 7) (.const (.bool true)) (.tmp 14)⟩])
  (.cond (.tmp 15)
   .ret
   .skip))
  (.seq (.seq (.region [
    ⟨(some 16), none, .pure, .fieldAddr 3 (.tmp 3)⟩,
    ⟨(some 17), none, .read, .load false 1 (.tmp 16)⟩,
    ⟨(some 18), none, .pure, .mv (.tmp 0)⟩,
    ⟨(some 19), none, .pure, .nilCheck (.tmp 18)⟩,
    ⟨(some 20), none, .pure, .fieldAddr 1 (.tmp 19)⟩,
    ⟨(some 21), none, .pure, .fieldAddr 0 (.tmp 20)⟩,
    ⟨(some 22), none, .read, .load false 1 (.tmp 21)⟩,
    ⟨(some 23), none, .pure, .bin .gtr (.tmp 17) (.tmp 22)⟩])
  (.cond (.tmp 23)
   (.seq (.region [
     ⟨(some 24), none, .act, .mv (.tmp 0)⟩,
     ⟨(some 25), none, .act, .fieldAddr 3 (.tmp 3)⟩,
     ⟨(some 26), none, .act, .load false 1 (.tmp 25)⟩,
     ⟨(some 27), none, .act, .build [(.int .u64 0), (.int .u64 0)] [(0, 1, (.tmp 26))]⟩,
     ⟨(some 28), none, .act, .nilCheck (.tmp 24)⟩,
     ⟨(some 29), none, .act, .fieldAddr 1 (.tmp 28)⟩,
     ⟨none, none, .act, .store 2 (.tmp 29) (.tmp 27)⟩])
   (.region [
     ⟨(some 30), none, .act, .mv (.tmp 0)⟩,
     ⟨(some 31), none, .act, .call 24 [(.tmp 30), (.const (.int .u64 0))]⟩]))
   .skip))
  (.seq (.seq (.region [
    ⟨(some 32), none, .pure, .fieldAddr 3 (.tmp 3)⟩,
    ⟨(some 33), none, .read, .load false 1 (.tmp 32)⟩,
    ⟨(some 34), none, .pure, .mv (.tmp 0)⟩,
    ⟨(some 35), none, .pure, .nilCheck (.tmp 34)⟩,
    ⟨(some 36), none, .pure, .fieldAddr 1 (.tmp 35)⟩,
    ⟨(some 37), none, .pure, .fieldAddr 0 (.tmp 36)⟩,
    ⟨(some 38), none, .read, .load false 1 (.tmp 37)⟩,
    ⟨(some 39), none, .pure, .bin .lss (.tmp 33) (.tmp 38)⟩])
  (.cond (.tmp 39)
   (.seq (.region [
     ⟨(some 40), none, .act, .mv (.tmp 0)⟩,
     ⟨(some 41), none, .act, .load true 14 (.tmp 3)⟩,
     ⟨(some 42), none, .act, .call 25 [(.tmp 40), (.tmp 41)]⟩])
   .ret)
   .skip))
  (.seq (.region [
    ⟨(some 43), none, .act, .fieldAddr 0 (.tmp 3)⟩,
    ⟨(some 44), none, .act, .load false 1 (.tmp 43)⟩])
  (.block 0
   (.seq (.region [
     ⟨(some 46), none, .act, .eq false .int (.tmp 44) (.const (.int .i64 1))⟩,
     ⟨(some 45), none, .act, .mv (.tmp 46)⟩])
   (.cond (.tmp 45)
    (.region [
      ⟨(some 47), none, .act, .mv (.tmp 0)⟩,
      ⟨(some 48), none, .act, .load true 14 (.tmp 3)⟩,
      ⟨(some 49), none, .act, .call 26 [(.tmp 47), (.tmp 48)]⟩])
    (.seq (.region [
      ⟨(some 51), none, .act, .eq false .int (.tmp 44) (.const (.int .i64 2))⟩,
      ⟨(some 50), none, .act, .mv (.tmp 51)⟩])
    (.cond (.tmp 50)
     (.seq (.region [
       ⟨(some 52), none, .act, .mv (.tmp 0)⟩,
       ⟨(some 53), none, .act, .nilCheck (.tmp 52)⟩,
       ⟨(some 54), none, .act, .fieldAddr 6 (.tmp 53)⟩,
       ⟨(some 55), none, .act, .load false 1 (.tmp 54)⟩,
       ⟨(some 56), none, .act, .eq false .int (.tmp 55) (.const (.int .i64 1))⟩,
       ⟨(some 57), none, .act, .mv (.tmp 56)⟩,
       ⟨(some 58), (some (57, true)), .act, .fieldAddr 8 (.tmp 3)⟩,
       ⟨(some 59), (some (57, true)), .act, .load false 1 (.tmp 58)⟩,
       ⟨(some 60), (some (57, true)), .act, .un .not (.tmp 59)⟩,
       ⟨(some 61), none, .act, .pick (.tmp 57) (.tmp 60) (.const (.bool false))⟩])
     (.cond (.tmp 61)
      (.seq (.region [
        ⟨(some 62), none, .pure, .mv (.tmp 0)⟩,
        ⟨(some 63), none, .pure, .nilCheck (.tmp 62)⟩,
        ⟨(some 64), none, .pure, .fieldAddr 11 (.tmp 63)⟩,
        ⟨(some 65), none, .read, .load false 1 (.tmp 64)⟩,
        ⟨(some 66), none, .pure, .fieldAddr 1 (.tmp 3)⟩,
        ⟨(some 67), none, .read, .load false 1 (.tmp 66)⟩,
        ⟨none, none, .act, .mapUpdate 22 (.tmp 65) (.tmp 67) (.const (.bool true))⟩])
      (.region [
        ⟨(some 68), none, .act, .mv (.tmp 0)⟩,
        ⟨(some 69), none, .act, .call 27 [(.tmp 68)]⟩]))
      .skip))
     (.seq (.region [
       ⟨(some 71), none, .act, .eq false .int (.tmp 44) (.const (.int .i64 3))⟩,
       ⟨(some 70), none, .act, .mv (.tmp 71)⟩])
     (.cond (.tmp 70)
      (.seq (.region [
        ⟨(some 72), none, .act, .mv (.tmp 0)⟩,
        ⟨(some 73), none, .act, .nilCheck (.tmp 72)⟩,
        ⟨(some 74), none, .act, .fieldAddr 6 (.tmp 73)⟩,
        ⟨(some 75), none, .act, .load false 1 (.tmp 74)⟩,
        ⟨(some 76), none, .act, .eq true .int (.tmp 75) (.const (.int .i64 2))⟩])
      (.cond (.tmp 76)
       (.seq (.region [
         ⟨(some 77), none, .act, .mv (.tmp 0)⟩,
         ⟨(some 78), none, .act, .fieldAddr 1 (.tmp 3)⟩,
         ⟨(some 79), none, .act, .load false 1 (.tmp 78)⟩,
         ⟨(some 80), none, .act, .call 24 [(.tmp 77), (.tmp 79)]⟩])
       (.seq (.region [
         ⟨(some 81), none, .act, .mv (.tmp 0)⟩,
         ⟨(some 82), none, .act, .call 28 [(.tmp 81)]⟩])
       (.region [
         ⟨(some 83), none, .act, .mv (.tmp 0)⟩,
         ⟨(some 84), none, .act, .load true 14 (.tmp 3)⟩,
         ⟨(some 85), none, .act, .call 29 [(.tmp 83), (.tmp 84)]⟩])))
       .skip))
      (.seq (.region [
        ⟨(some 87), none, .act, .eq false .int (.tmp 44) (.const (.int .i64 5))⟩,
        ⟨(some 86), none, .act, .mv (.tmp 87)⟩])
      (.cond (.tmp 86)
       (.seq (.region [
         ⟨(some 88), none, .act, .mv (.tmp 0)⟩,
         ⟨(some 89), none, .act, .nilCheck (.tmp 88)⟩,
         ⟨(some 90), none, .act, .fieldAddr 6 (.tmp 89)⟩,
         ⟨(some 91), none, .act, .load false 1 (.tmp 90)⟩,
         ⟨(some 92), none, .act, .eq true .int (.tmp 91) (.const (.int .i64 2))⟩])
       (.cond (.tmp 92)
        (.seq (.region [
          ⟨(some 93), none, .act, .mv (.tmp 0)⟩,
          ⟨(some 94), none, .act, .fieldAddr 1 (.tmp 3)⟩,
          ⟨(some 95), none, .act, .load false 1 (.tmp 94)⟩,
          ⟨(some 96), none, .act, .call 24 [(.tmp 93), (.tmp 95)]⟩])
        (.seq (.region [
          ⟨(some 97), none, .act, .mv (.tmp 0)⟩,
          ⟨(some 98), none, .act, .call 28 [(.tmp 97)]⟩])
        (.region [
          ⟨(some 99), none, .act, .mv (.tmp 0)⟩,
          ⟨(some 100), none, .act, .load true 14 (.tmp 3)⟩,
          ⟨(some 101), none, .act, .call 30 [(.tmp 99), (.tmp 100)]⟩])))
        .skip))
       (.seq (.region [
         ⟨(some 103), none, .act, .eq false .int (.tmp 44) (.const (.int .i64 4))⟩,
         ⟨(some 102), none, .act, .mv (.tmp 103)⟩])
       (.cond (.tmp 102)
        (.seq (.region [
          ⟨(some 104), none, .act, .mv (.tmp 0)⟩,
          ⟨(some 105), none, .act, .nilCheck (.tmp 104)⟩,
          ⟨(some 106), none, .act, .fieldAddr 6 (.tmp 105)⟩,
          ⟨(some 107), none, .act, .load false 1 (.tmp 106)⟩,
          ⟨(some 108), none, .act, .eq false .int (.tmp 107) (.const (.int .i64 2))⟩,
          ⟨(some 109), none, .act, .mv (.tmp 108)⟩,
          ⟨(some 110), (some (109, true)), .act, .mv (.tmp 0)⟩,
          ⟨(some 111), (some (109, true)), .act, .fieldAddr 1 (.tmp 3)⟩,
          ⟨(some 112), (some (109, true)), .act, .load false 1 (.tmp 111)⟩,
          ⟨(some 113), (some (109, true)), .act, .call 22 [(.tmp 110), (.tmp 112)]⟩,
          ⟨(some 114), none, .act, .pick (.tmp 109) (.tmp 113) (.const (.bool false))⟩])
        (.cond (.tmp 114)
         (.region [
           ⟨(some 115), none, .act, .mv (.tmp 0)⟩,
           ⟨(some 116), none, .act, .load true 14 (.tmp 3)⟩,
           ⟨(some 117), none, .act, .call 31 [(.tmp 115), (.tmp 116)]⟩])
         .skip))
        .skip))))))))))))))))
theorem res7 : ∃ c, Tryz.f7.body = some c ∧ resCode Tryz.prog 118 c = some r7 := ⟨_, rfl, by kernel_rfl⟩
theorem rr7 : resRes Tryz.prog Tryz.f7.results.toList = some [] := by kernel_rfl
theorem nil7 (m : Msg) (h : AHeap) : ACalls Tryz.prog 7 [nilP, .ag m.cells] h (fun x h' => x = .tu [] ∧ h' = h) := by
  obtain ⟨c, hc1, hc2⟩ := res7
  refine ACalls.weak (ACalls.enter Tryz.func7 hc1 Tryz.ntmps7 hc2 (Nat.le_of_ble_eq_true rfl) rfl ?_)
  repeat' (first
    | refine S.nilK ?_
    | (refine S.op rfl ?_; first
      | refine R.callQ (by decide) rfl (ok_nil _) ?_
      | refine R.mv rfl ?_
      | refine R.fieldAddr rfl ?_
      | refine R.fieldAddrR rfl ?_
      | refine R.nilCheck rfl ?_
      | refine R.nilCheckR rfl ?_
      | refine R.loadR rfl rfl ?_
      | refine R.load (by decide) rfl (by (repeat' (first | assumption | exact AHeap.set_same _ _ _ | refine AHeap.get_fresh (by assumption) ?_ | (refine (AHeap.set_other _ _ ?_).trans ?_; first | exact (AHeap.fresh_set (by assumption)).1 | exact Ne.symm (AHeap.fresh_set (by assumption)).1 | exact AHeap.ne_of (by assumption) (by assumption) | exact Ne.symm (AHeap.ne_of (by assumption) (by assumption)) | exact (AHeap.fresh_set (AHeap.fresh_set (by assumption)).2).1 | exact Ne.symm (AHeap.fresh_set (AHeap.fresh_set (by assumption)).2).1 | exact AHeap.ne_of (AHeap.fresh_set (by assumption)).2 (by assumption) | exact Ne.symm (AHeap.ne_of (AHeap.fresh_set (by assumption)).2 (by assumption)) | assumption | skip) | exact (AHeap.fresh_set (by assumption)).1 | exact Ne.symm (AHeap.fresh_set (by assumption)).1 | exact AHeap.ne_of (by assumption) (by assumption) | exact Ne.symm (AHeap.ne_of (by assumption) (by assumption)) | exact (AHeap.fresh_set (AHeap.fresh_set (by assumption)).2).1 | exact Ne.symm (AHeap.fresh_set (AHeap.fresh_set (by assumption)).2).1 | exact AHeap.ne_of (AHeap.fresh_set (by assumption)).2 (by assumption) | exact Ne.symm (AHeap.ne_of (AHeap.fresh_set (by assumption)).2 (by assumption)))); first | done | fail) rfl ?_
      | refine S.addI rfl rfl (by omega) ?_
      | refine S.subI rfl rfl (by omega) ?_
      | refine S.addU rfl rfl ?_
      | refine S.subU rfl rfl ?_
      | refine S.addUc rfl (by decide) ?_
      | refine S.subUc rfl (by decide) ?_
      | refine S.arith rfl rfl rfl ?_
      | refine R.pickT rfl rfl ?_
      | refine R.pickF rfl rfl ?_
      | refine R.len rfl ?_
      | refine R.lenA rfl ?_
      | refine R.lenStr rfl ?_
      | refine S.convIU rfl (by omega) ?_
      | refine S.convUI rfl (by omega) ?_
      | refine R.convInt rfl ?_
      | refine R.not rfl ?_
      | refine R.eqPtrNil rfl rfl ?_
      | refine R.extract rfl rfl ?_
      | refine R.field rfl rfl ?_
      | refine R.alloc rfl (fun b hb => ?_)
      | refine R.box rfl rfl rfl (fun b hb => ?_)
      | refine R.build rfl rfl ?_
      | refine R.buildSl rfl rfl rfl (by decide) ?_
      | refine R.toStr rfl ?_
      | refine R.convStr rfl ?_
      | refine R.minmax rfl ?_
      | refine R.makeFunc rfl rfl ?_
      | (first | refine S.lss rfl rfl (fun hlt => ?_) (fun hlt => by exfalso; omega) | refine S.lss rfl rfl (fun hlt => by exfalso; omega) (fun hlt => ?_) | refine S.lss rfl rfl (fun hlt => ?_) (fun hlt => ?_))
      | (first | refine S.gtr rfl rfl (fun hlt => ?_) (fun hlt => by exfalso; omega) | refine S.gtr rfl rfl (fun hlt => by exfalso; omega) (fun hlt => ?_) | refine S.gtr rfl rfl (fun hlt => ?_) (fun hlt => ?_))
      | (first | refine S.leq rfl rfl (fun hlt => ?_) (fun hlt => by exfalso; omega) | refine S.leq rfl rfl (fun hlt => by exfalso; omega) (fun hlt => ?_) | refine S.leq rfl rfl (fun hlt => ?_) (fun hlt => ?_))
      | (first | refine S.geq rfl rfl (fun hlt => ?_) (fun hlt => by exfalso; omega) | refine S.geq rfl rfl (fun hlt => by exfalso; omega) (fun hlt => ?_) | refine S.geq rfl rfl (fun hlt => ?_) (fun hlt => ?_))
      | (first | refine S.eqInt rfl rfl (fun hlt => ?_) (fun hlt => by exfalso; omega) | refine S.eqInt rfl rfl (fun hlt => by exfalso; omega) (fun hlt => ?_) | refine S.eqInt rfl rfl (fun hlt => ?_) (fun hlt => ?_)))
    | (refine S.op0 rfl ?_; first | refine S.storeS rfl rfl rfl (by rfl) rfl (by first | decide | exact Nat.le_refl _ | exact Nat.le_of_ble_eq_true rfl) ?_ | refine S.store rfl rfl (by (repeat' (first | assumption | exact AHeap.set_same _ _ _ | refine AHeap.get_fresh (by assumption) ?_ | (refine (AHeap.set_other _ _ ?_).trans ?_; first | exact (AHeap.fresh_set (by assumption)).1 | exact Ne.symm (AHeap.fresh_set (by assumption)).1 | exact AHeap.ne_of (by assumption) (by assumption) | exact Ne.symm (AHeap.ne_of (by assumption) (by assumption)) | exact (AHeap.fresh_set (AHeap.fresh_set (by assumption)).2).1 | exact Ne.symm (AHeap.fresh_set (AHeap.fresh_set (by assumption)).2).1 | exact AHeap.ne_of (AHeap.fresh_set (by assumption)).2 (by assumption) | exact Ne.symm (AHeap.ne_of (AHeap.fresh_set (by assumption)).2 (by assumption)) | assumption | skip) | exact (AHeap.fresh_set (by assumption)).1 | exact Ne.symm (AHeap.fresh_set (by assumption)).1 | exact AHeap.ne_of (by assumption) (by assumption) | exact Ne.symm (AHeap.ne_of (by assumption) (by assumption)) | exact (AHeap.fresh_set (AHeap.fresh_set (by assumption)).2).1 | exact Ne.symm (AHeap.fresh_set (AHeap.fresh_set (by assumption)).2).1 | exact AHeap.ne_of (AHeap.fresh_set (by assumption)).2 (by assumption) | exact Ne.symm (AHeap.ne_of (AHeap.fresh_set (by assumption)).2 (by assumption)))); first | done | fail) rfl rfl rfl (by rfl) rfl ?_)
    | refine S.skip rfl ?_
    | refine S.skip0 rfl ?_
    | refine S.seq ?_
    | refine S.region ?_
    | refine S.regionT ?_
    | refine S.tstep ?_
    | refine S.talt ?_ ?_
    | exact S.tstop
    | refine S.tdone ?_
    | refine S.condT rfl ?_
    | refine S.condF rfl ?_
    | refine RRun.skip ?_
    | refine RRun.block ?_
    | refine RRun.inBlock ?_
    | refine RRun.exit rfl ?_)
  apply S.ret rr7
  case hx => repeat (first | exact ResAt.nil | apply ResAt.tmp rfl | apply ResAt.cellA rfl (by (repeat' (first | assumption | exact AHeap.set_same _ _ _ | refine AHeap.get_fresh (by assumption) ?_ | (refine (AHeap.set_other _ _ ?_).trans ?_; first | exact (AHeap.fresh_set (by assumption)).1 | exact Ne.symm (AHeap.fresh_set (by assumption)).1 | exact AHeap.ne_of (by assumption) (by assumption) | exact Ne.symm (AHeap.ne_of (by assumption) (by assumption)) | exact (AHeap.fresh_set (AHeap.fresh_set (by assumption)).2).1 | exact Ne.symm (AHeap.fresh_set (AHeap.fresh_set (by assumption)).2).1 | exact AHeap.ne_of (AHeap.fresh_set (by assumption)).2 (by assumption) | exact Ne.symm (AHeap.ne_of (AHeap.fresh_set (by assumption)).2 (by assumption)) | assumption | skip) | exact (AHeap.fresh_set (by assumption)).1 | exact Ne.symm (AHeap.fresh_set (by assumption)).1 | exact AHeap.ne_of (by assumption) (by assumption) | exact Ne.symm (AHeap.ne_of (by assumption) (by assumption)) | exact (AHeap.fresh_set (AHeap.fresh_set (by assumption)).2).1 | exact Ne.symm (AHeap.fresh_set (AHeap.fresh_set (by assumption)).2).1 | exact AHeap.ne_of (AHeap.fresh_set (by assumption)).2 (by assumption) | exact Ne.symm (AHeap.ne_of (AHeap.fresh_set (by assumption)).2 (by assumption)))); first | done | fail) (by rfl) | apply ResAt.cell1 rfl (by (repeat' (first | assumption | exact AHeap.set_same _ _ _ | refine AHeap.get_fresh (by assumption) ?_ | (refine (AHeap.set_other _ _ ?_).trans ?_; first | exact (AHeap.fresh_set (by assumption)).1 | exact Ne.symm (AHeap.fresh_set (by assumption)).1 | exact AHeap.ne_of (by assumption) (by assumption) | exact Ne.symm (AHeap.ne_of (by assumption) (by assumption)) | exact (AHeap.fresh_set (AHeap.fresh_set (by assumption)).2).1 | exact Ne.symm (AHeap.fresh_set (AHeap.fresh_set (by assumption)).2).1 | exact AHeap.ne_of (AHeap.fresh_set (by assumption)).2 (by assumption) | exact Ne.symm (AHeap.ne_of (AHeap.fresh_set (by assumption)).2 (by assumption)) | assumption | skip) | exact (AHeap.fresh_set (by assumption)).1 | exact Ne.symm (AHeap.fresh_set (by assumption)).1 | exact AHeap.ne_of (by assumption) (by assumption) | exact Ne.symm (AHeap.ne_of (by assumption) (by assumption)) | exact (AHeap.fresh_set (AHeap.fresh_set (by assumption)).2).1 | exact Ne.symm (AHeap.fresh_set (AHeap.fresh_set (by assumption)).2).1 | exact AHeap.ne_of (AHeap.fresh_set (by assumption)).2 (by assumption) | exact Ne.symm (AHeap.ne_of (AHeap.fresh_set (by assumption)).2 (by assumption)))); first | done | fail) (by rfl))
  exact ⟨_, _, .refl _, (by repeat (first | exact AHeap.le.refl _ | refine AHeap.le.set ?_ _ (by (repeat' (first | assumption | exact (AHeap.fresh_set (by assumption)).2 | exact (AHeap.fresh_set (AHeap.fresh_set (by assumption)).2).2 | exact (AHeap.fresh_set (AHeap.fresh_set (AHeap.fresh_set (by assumption)).2).2).2 | refine (AHeap.set_other _ _ ?_).trans ?_ | exact (AHeap.fresh_set (by assumption)).1 | exact Ne.symm (AHeap.fresh_set (by assumption)).1 | exact AHeap.ne_of (by assumption) (by assumption) | exact Ne.symm (AHeap.ne_of (by assumption) (by assumption)) | exact (AHeap.fresh_set (AHeap.fresh_set (by assumption)).2).1 | exact Ne.symm (AHeap.fresh_set (AHeap.fresh_set (by assumption)).2).1 | exact AHeap.ne_of (AHeap.fresh_set (by assumption)).2 (by assumption) | exact Ne.symm (AHeap.ne_of (AHeap.fresh_set (by assumption)).2 (by assumption)))); first | done | fail) | refine AHeap.le.both ?_ _ _)), rfl, rfl⟩

/-- (*plenum/raft.Node).Propose -/
def r8 : RCode :=
  (.seq (.region [
    ⟨(some 4), none, .act, .mv (.const (.int .u64 0))⟩,
    ⟨(some 5), none, .act, .mv (.const (.int .i64 0))⟩])
  (.seq (.block 0
   (.seq (.region [
     ⟨(some 7), none, .act, .mv (.tmp 0)⟩,
     ⟨(some 8), none, .act, .call 20 [(.tmp 7)]⟩,
     ⟨(some 9), none, .act, .un .not (.tmp 8)⟩,
     ⟨(some 6), none, .act, .mv (.tmp 9)⟩])
   (.cond (.tmp 6)
    (.seq (.region [
      ⟨(some 4), none, .act, .mv (.const (.int .u64 0))⟩,
      ⟨(some 5), none, .act, .mv (.const (.int .i64 1))⟩])
    .ret)
    (.seq (.region [
      ⟨(some 11), none, .act, .mv (.tmp 1)⟩,
      ⟨(some 12), none, .act, .len (.tmp 11)⟩,
      ⟨(some 13), none, .act, .bin .gtr (.tmp 12) (.const (.int .i64 4096))⟩,
      ⟨(some 10), none, .act, .mv (.tmp 13)⟩])
    (.cond (.tmp 10)
     (.seq (.region [
       ⟨(some 4), none, .act, .mv (.const (.int .u64 0))⟩,
       ⟨(some 5), none, .act, .mv (.const (.int .i64 2))⟩])
     .ret)
     (.seq (.region [
       ⟨(some 15), none, .act, .mv (.tmp 0)⟩,
       ⟨(some 16), none, .act, .nilCheck (.tmp 15)⟩,
       ⟨(some 17), none, .act, .fieldAddr 6 (.tmp 16)⟩,
       ⟨(some 18), none, .act, .load false 1 (.tmp 17)⟩,
       ⟨(some 19), none, .act, .eq true .int (.tmp 18) (.const (.int .i64 2))⟩,
       ⟨(some 14), none, .act, .mv (.tmp 19)⟩])
     (.cond (.tmp 14)
      (.seq (.region [
        ⟨(some 4), none, .act, .mv (.const (.int .u64 0))⟩,
        ⟨(some 5), none, .act, .mv (.const (.int .i64 90))⟩])
      .ret)
      .skip)))))))
  (.seq (.region [
    ⟨(some 20), none, .act, .mv (.tmp 0)⟩,
    ⟨(some 21), none, .act, .mv (.tmp 1)⟩,
    ⟨(some 22), none, .act, .call 33 [(.tmp 21)]⟩,
    ⟨(some 23), none, .act, .call 32 [(.tmp 20), (.const (.int .i64 0)), (.tmp 22)]⟩,
    ⟨(some 4), none, .act, .mv (.tmp 23)⟩,
    ⟨(some 5), none, .act, .mv (.const (.int .i64 0))⟩])
  .ret)))
theorem res8 : ∃ c, Tryz.f8.body = some c ∧ resCode Tryz.prog 24 c = some r8 := ⟨_, rfl, by kernel_rfl⟩
theorem rr8 : resRes Tryz.prog Tryz.f8.results.toList = some [.tmp 4, .tmp 5] := by kernel_rfl
theorem nil8 (d : List UInt8) (h : AHeap) : ACalls Tryz.prog 8 [nilP, bys d] h (fun x h' => x = .tu [zU, eRange] ∧ h' = h) := by
  obtain ⟨c, hc1, hc2⟩ := res8
  refine ACalls.weak (ACalls.enter Tryz.func8 hc1 Tryz.ntmps8 hc2 (Nat.le_of_ble_eq_true rfl) rfl ?_)
  repeat' (first
    | refine S.nilK ?_
    | (refine S.op rfl ?_; first
      | refine R.callQ (by decide) rfl (ok_nil _) ?_
      | refine R.mv rfl ?_
      | refine R.fieldAddr rfl ?_
      | refine R.fieldAddrR rfl ?_
      | refine R.nilCheck rfl ?_
      | refine R.nilCheckR rfl ?_
      | refine R.loadR rfl rfl ?_
      | refine R.load (by decide) rfl (by (repeat' (first | assumption | exact AHeap.set_same _ _ _ | refine AHeap.get_fresh (by assumption) ?_ | (refine (AHeap.set_other _ _ ?_).trans ?_; first | exact (AHeap.fresh_set (by assumption)).1 | exact Ne.symm (AHeap.fresh_set (by assumption)).1 | exact AHeap.ne_of (by assumption) (by assumption) | exact Ne.symm (AHeap.ne_of (by assumption) (by assumption)) | exact (AHeap.fresh_set (AHeap.fresh_set (by assumption)).2).1 | exact Ne.symm (AHeap.fresh_set (AHeap.fresh_set (by assumption)).2).1 | exact AHeap.ne_of (AHeap.fresh_set (by assumption)).2 (by assumption) | exact Ne.symm (AHeap.ne_of (AHeap.fresh_set (by assumption)).2 (by assumption)) | assumption | skip) | exact (AHeap.fresh_set (by assumption)).1 | exact Ne.symm (AHeap.fresh_set (by assumption)).1 | exact AHeap.ne_of (by assumption) (by assumption) | exact Ne.symm (AHeap.ne_of (by assumption) (by assumption)) | exact (AHeap.fresh_set (AHeap.fresh_set (by assumption)).2).1 | exact Ne.symm (AHeap.fresh_set (AHeap.fresh_set (by assumption)).2).1 | exact AHeap.ne_of (AHeap.fresh_set (by assumption)).2 (by assumption) | exact Ne.symm (AHeap.ne_of (AHeap.fresh_set (by assumption)).2 (by assumption)))); first | done | fail) rfl ?_
      | refine S.addI rfl rfl (by omega) ?_
      | refine S.subI rfl rfl (by omega) ?_
      | refine S.addU rfl rfl ?_
      | refine S.subU rfl rfl ?_
      | refine S.addUc rfl (by decide) ?_
      | refine S.subUc rfl (by decide) ?_
      | refine S.arith rfl rfl rfl ?_
      | refine R.pickT rfl rfl ?_
      | refine R.pickF rfl rfl ?_
      | refine R.len rfl ?_
      | refine R.lenA rfl ?_
      | refine R.lenStr rfl ?_
      | refine S.convIU rfl (by omega) ?_
      | refine S.convUI rfl (by omega) ?_
      | refine R.convInt rfl ?_
      | refine R.not rfl ?_
      | refine R.eqPtrNil rfl rfl ?_
      | refine R.extract rfl rfl ?_
      | refine R.field rfl rfl ?_
      | refine R.alloc rfl (fun b hb => ?_)
      | refine R.box rfl rfl rfl (fun b hb => ?_)
      | refine R.build rfl rfl ?_
      | refine R.buildSl rfl rfl rfl (by decide) ?_
      | refine R.toStr rfl ?_
      | refine R.convStr rfl ?_
      | refine R.minmax rfl ?_
      | refine R.makeFunc rfl rfl ?_
      | (first | refine S.lss rfl rfl (fun hlt => ?_) (fun hlt => by exfalso; omega) | refine S.lss rfl rfl (fun hlt => by exfalso; omega) (fun hlt => ?_) | refine S.lss rfl rfl (fun hlt => ?_) (fun hlt => ?_))
      | (first | refine S.gtr rfl rfl (fun hlt => ?_) (fun hlt => by exfalso; omega) | refine S.gtr rfl rfl (fun hlt => by exfalso; omega) (fun hlt => ?_) | refine S.gtr rfl rfl (fun hlt => ?_) (fun hlt => ?_))
      | (first | refine S.leq rfl rfl (fun hlt => ?_) (fun hlt => by exfalso; omega) | refine S.leq rfl rfl (fun hlt => by exfalso; omega) (fun hlt => ?_) | refine S.leq rfl rfl (fun hlt => ?_) (fun hlt => ?_))
      | (first | refine S.geq rfl rfl (fun hlt => ?_) (fun hlt => by exfalso; omega) | refine S.geq rfl rfl (fun hlt => by exfalso; omega) (fun hlt => ?_) | refine S.geq rfl rfl (fun hlt => ?_) (fun hlt => ?_))
      | (first | refine S.eqInt rfl rfl (fun hlt => ?_) (fun hlt => by exfalso; omega) | refine S.eqInt rfl rfl (fun hlt => by exfalso; omega) (fun hlt => ?_) | refine S.eqInt rfl rfl (fun hlt => ?_) (fun hlt => ?_)))
    | (refine S.op0 rfl ?_; first | refine S.storeS rfl rfl rfl (by rfl) rfl (by first | decide | exact Nat.le_refl _ | exact Nat.le_of_ble_eq_true rfl) ?_ | refine S.store rfl rfl (by (repeat' (first | assumption | exact AHeap.set_same _ _ _ | refine AHeap.get_fresh (by assumption) ?_ | (refine (AHeap.set_other _ _ ?_).trans ?_; first | exact (AHeap.fresh_set (by assumption)).1 | exact Ne.symm (AHeap.fresh_set (by assumption)).1 | exact AHeap.ne_of (by assumption) (by assumption) | exact Ne.symm (AHeap.ne_of (by assumption) (by assumption)) | exact (AHeap.fresh_set (AHeap.fresh_set (by assumption)).2).1 | exact Ne.symm (AHeap.fresh_set (AHeap.fresh_set (by assumption)).2).1 | exact AHeap.ne_of (AHeap.fresh_set (by assumption)).2 (by assumption) | exact Ne.symm (AHeap.ne_of (AHeap.fresh_set (by assumption)).2 (by assumption)) | assumption | skip) | exact (AHeap.fresh_set (by assumption)).1 | exact Ne.symm (AHeap.fresh_set (by assumption)).1 | exact AHeap.ne_of (by assumption) (by assumption) | exact Ne.symm (AHeap.ne_of (by assumption) (by assumption)) | exact (AHeap.fresh_set (AHeap.fresh_set (by assumption)).2).1 | exact Ne.symm (AHeap.fresh_set (AHeap.fresh_set (by assumption)).2).1 | exact AHeap.ne_of (AHeap.fresh_set (by assumption)).2 (by assumption) | exact Ne.symm (AHeap.ne_of (AHeap.fresh_set (by assumption)).2 (by assumption)))); first | done | fail) rfl rfl rfl (by rfl) rfl ?_)
    | refine S.skip rfl ?_
    | refine S.skip0 rfl ?_
    | refine S.seq ?_
    | refine S.region ?_
    | refine S.regionT ?_
    | refine S.tstep ?_
    | refine S.talt ?_ ?_
    | exact S.tstop
    | refine S.tdone ?_
    | refine S.condT rfl ?_
    | refine S.condF rfl ?_
    | refine RRun.skip ?_
    | refine RRun.block ?_
    | refine RRun.inBlock ?_
    | refine RRun.exit rfl ?_)
  apply S.ret rr8
  case hx => repeat (first | exact ResAt.nil | apply ResAt.tmp rfl | apply ResAt.cellA rfl (by (repeat' (first | assumption | exact AHeap.set_same _ _ _ | refine AHeap.get_fresh (by assumption) ?_ | (refine (AHeap.set_other _ _ ?_).trans ?_; first | exact (AHeap.fresh_set (by assumption)).1 | exact Ne.symm (AHeap.fresh_set (by assumption)).1 | exact AHeap.ne_of (by assumption) (by assumption) | exact Ne.symm (AHeap.ne_of (by assumption) (by assumption)) | exact (AHeap.fresh_set (AHeap.fresh_set (by assumption)).2).1 | exact Ne.symm (AHeap.fresh_set (AHeap.fresh_set (by assumption)).2).1 | exact AHeap.ne_of (AHeap.fresh_set (by assumption)).2 (by assumption) | exact Ne.symm (AHeap.ne_of (AHeap.fresh_set (by assumption)).2 (by assumption)) | assumption | skip) | exact (AHeap.fresh_set (by assumption)).1 | exact Ne.symm (AHeap.fresh_set (by assumption)).1 | exact AHeap.ne_of (by assumption) (by assumption) | exact Ne.symm (AHeap.ne_of (by assumption) (by assumption)) | exact (AHeap.fresh_set (AHeap.fresh_set (by assumption)).2).1 | exact Ne.symm (AHeap.fresh_set (AHeap.fresh_set (by assumption)).2).1 | exact AHeap.ne_of (AHeap.fresh_set (by assumption)).2 (by assumption) | exact Ne.symm (AHeap.ne_of (AHeap.fresh_set (by assumption)).2 (by assumption)))); first | done | fail) (by rfl) | apply ResAt.cell1 rfl (by (repeat' (first | assumption | exact AHeap.set_same _ _ _ | refine AHeap.get_fresh (by assumption) ?_ | (refine (AHeap.set_other _ _ ?_).trans ?_; first | exact (AHeap.fresh_set (by assumption)).1 | exact Ne.symm (AHeap.fresh_set (by assumption)).1 | exact AHeap.ne_of (by assumption) (by assumption) | exact Ne.symm (AHeap.ne_of (by assumption) (by assumption)) | exact (AHeap.fresh_set (AHeap.fresh_set (by assumption)).2).1 | exact Ne.symm (AHeap.fresh_set (AHeap.fresh_set (by assumption)).2).1 | exact AHeap.ne_of (AHeap.fresh_set (by assumption)).2 (by assumption) | exact Ne.symm (AHeap.ne_of (AHeap.fresh_set (by assumption)).2 (by assumption)) | assumption | skip) | exact (AHeap.fresh_set (by assumption)).1 | exact Ne.symm (AHeap.fresh_set (by assumption)).1 | exact AHeap.ne_of (by assumption) (by assumption) | exact Ne.symm (AHeap.ne_of (by assumption) (by assumption)) | exact (AHeap.fresh_set (AHeap.fresh_set (by assumption)).2).1 | exact Ne.symm (AHeap.fresh_set (AHeap.fresh_set (by assumption)).2).1 | exact AHeap.ne_of (AHeap.fresh_set (by assumption)).2 (by assumption) | exact Ne.symm (AHeap.ne_of (AHeap.fresh_set (by assumption)).2 (by assumption)))); first | done | fail) (by rfl))
  exact ⟨_, _, .refl _, (by repeat (first | exact AHeap.le.refl _ | refine AHeap.le.set ?_ _ (by (repeat' (first | assumption | exact (AHeap.fresh_set (by assumption)).2 | exact (AHeap.fresh_set (AHeap.fresh_set (by assumption)).2).2 | exact (AHeap.fresh_set (AHeap.fresh_set (AHeap.fresh_set (by assumption)).2).2).2 | refine (AHeap.set_other _ _ ?_).trans ?_ | exact (AHeap.fresh_set (by assumption)).1 | exact Ne.symm (AHeap.fresh_set (by assumption)).1 | exact AHeap.ne_of (by assumption) (by assumption) | exact Ne.symm (AHeap.ne_of (by assumption) (by assumption)) | exact (AHeap.fresh_set (AHeap.fresh_set (by assumption)).2).1 | exact Ne.symm (AHeap.fresh_set (AHeap.fresh_set (by assumption)).2).1 | exact AHeap.ne_of (AHeap.fresh_set (by assumption)).2 (by assumption) | exact Ne.symm (AHeap.ne_of (AHeap.fresh_set (by assumption)).2 (by assumption)))); first | done | fail) | refine AHeap.le.both ?_ _ _)), rfl, rfl⟩

/-- (*plenum/raft.Node).Change -/
def r9 : RCode :=
  (.seq (.region [
    ⟨(some 4), none, .act, .mv (.const (.int .u64 0))⟩,
    ⟨(some 5), none, .act, .mv (.const (.int .i64 0))⟩])
  (.seq (.block 0
   (.seq (.region [
     ⟨(some 11), none, .act, .mv (.tmp 0)⟩,
     ⟨(some 12), none, .act, .call 20 [(.tmp 11)]⟩,
     ⟨(some 13), none, .act, .un .not (.tmp 12)⟩,
     ⟨(some 14), none, .act, .mv (.tmp 13)⟩,
     ⟨(some 15), (some (14, false)), .act, .mv (.tmp 1)⟩,
     ⟨(some 16), (some (14, false)), .act, .call 34 [(.tmp 15)]⟩,
     ⟨(some 17), (some (14, false)), .act, .un .not (.tmp 16)⟩,
     ⟨(some 18), none, .act, .pick (.tmp 14) (.const (.bool true)) (.tmp 17)⟩,
     ⟨(some 10), none, .act, .mv (.tmp 18)⟩])
   (.cond (.tmp 10)
    (.seq (.region [
      ⟨(some 4), none, .act, .mv (.const (.int .u64 0))⟩,
      ⟨(some 5), none, .act, .mv (.const (.int .i64 1))⟩])
    .ret)
    (.seq (.region [
      ⟨(some 20), none, .act, .mv (.tmp 0)⟩,
      ⟨(some 21), none, .act, .nilCheck (.tmp 20)⟩,
      ⟨(some 22), none, .act, .fieldAddr 6 (.tmp 21)⟩,
      ⟨(some 23), none, .act, .load false 1 (.tmp 22)⟩,
      ⟨(some 24), none, .act, .eq true .int (.tmp 23) (.const (.int .i64 2))⟩,
      ⟨(some 19), none, .act, .mv (.tmp 24)⟩])
    (.cond (.tmp 19)
     (.seq (.region [
       ⟨(some 4), none, .act, .mv (.const (.int .u64 0))⟩,
       ⟨(some 5), none, .act, .mv (.const (.int .i64 90))⟩])
     .ret)
     .skip)))))
  (.seq (.region [
    ⟨(some 26), none, .act, .mv (.tmp 0)⟩,
    ⟨(some 27), none, .act, .nilCheck (.tmp 26)⟩,
    ⟨(some 28), none, .act, .fieldAddr 5 (.tmp 27)⟩,
    ⟨(some 29), none, .act, .load false 1 (.tmp 28)⟩,
    ⟨(some 30), none, .act, .call 35 [(.tmp 29)]⟩,
    ⟨(some 25), none, .act, .mv (.tmp 30)⟩,
    ⟨(some 31), none, .act, .extract (.tmp 25) 0⟩,
    ⟨(some 32), none, .act, .extract (.tmp 25) 1⟩,
    ⟨(some 6), none, .act, .mv (.tmp 31)⟩,
    ⟨(some 7), none, .act, .mv (.tmp 32)⟩])
  (.seq (.region [
    ⟨(some 34), none, .pure, .mv (.tmp 0)⟩,
    ⟨(some 35), none, .pure, .nilCheck (.tmp 34)⟩,
    ⟨(some 36), none, .pure, .fieldAddr 5 (.tmp 35)⟩,
    ⟨(some 37), none, .read, .load false 1 (.tmp 36)⟩,
    ⟨(some 38), none, .pure, .mv (.tmp 0)⟩,
    ⟨(some 39), none, .pure, .nilCheck (.tmp 38)⟩,
    ⟨(some 40), none, .pure, .fieldAddr 8 (.tmp 39)⟩,
    ⟨(some 41), none, .read, .load false 1 (.tmp 40)⟩,
    ⟨(some 42), none, .act, .call 36 [(.tmp 37), (.tmp 41)]⟩,
    ⟨(some 33), none, .pure, .mv (.tmp 42)⟩,
    ⟨(some 43), none, .pure, .extract (.tmp 33) 0⟩,
    ⟨(some 44), none, .pure, .extract (.tmp 33) 1⟩,
    ⟨(some 8), none, .pure, .mv (.tmp 43)⟩,
    ⟨(some 9), none, .pure, .mv (.tmp 44)⟩])
  (.seq (.seq (.region [
    ⟨(some 45), none, .act, .mv (.tmp 6)⟩,
    ⟨(some 46), none, .act, .mv (.tmp 1)⟩,
    ⟨(some 47), none, .act, .call 37 [(.tmp 45), (.tmp 46)]⟩,
    ⟨(some 48), none, .act, .mv (.tmp 1)⟩,
    ⟨(some 49), none, .act, .mv (.tmp 6)⟩,
    ⟨(some 50), none, .act, .call 37 [(.tmp 48), (.tmp 49)]⟩,
    ⟨(some 51), none, .act, .bin .add (.tmp 47) (.tmp 50)⟩,
    ⟨(some 52), none, .act, .eq true .int (.tmp 51) (.const (.int .i64 1))⟩,
    ⟨(some 53), none, .act, .mv (.tmp 52)⟩,
    ⟨(some 54), (some (53, false)), .act, .mv (.tmp 7)⟩,
    ⟨(some 55), (some (53, false)), .act, .mv (.tmp 0)⟩,
    ⟨(some 56), (some (53, false)), .act, .nilCheck (.tmp 55)⟩,
    ⟨(some 57), (some (53, false)), .act, .fieldAddr 8 (.tmp 56)⟩,
    ⟨(some 58), (some (53, false)), .act, .load false 1 (.tmp 57)⟩,
    ⟨(some 59), (some (53, false)), .act, .bin .gtr (.tmp 54) (.tmp 58)⟩,
    ⟨(some 60), none, .act, .pick (.tmp 53) (.const (.bool true)) (.tmp 59)⟩,
    ⟨(some 61), none, .act, .mv (.tmp 60)⟩,
    ⟨(some 62), (some (61, false)), .act, .mv (.tmp 8)⟩,
    ⟨(some 63), (some (61, false)), .act, .mv (.tmp 0)⟩,
    ⟨(some 64), (some (61, false)), .act, .nilCheck (.tmp 63)⟩,
    ⟨(some 65), (some (61, false)), .act, .fieldAddr 1 (.tmp 64)⟩,
    ⟨(some 66), (some (61, false)), .act, .fieldAddr 0 (.tmp 65)⟩,
    ⟨(some 67), (some (61, false)), .act, .load false 1 (.tmp 66)⟩,
    ⟨(some 68), (some (61, false)), .act, .eq true .int (.tmp 62) (.tmp 67)⟩,
    ⟨(some 69), none, .act, .pick (.tmp 61) (.const (.bool true)) (.tmp 68)⟩])
  (.cond (.tmp 69)
   (.seq (.region [
     ⟨(some 4), none, .act, .mv (.const (.int .u64 0))⟩,
     ⟨(some 5), none, .act, .mv (.const (.int .i64 91))⟩])
   .ret)
   .skip))
  (.seq (.region [
    ⟨(some 70), none, .act, .mv (.tmp 0)⟩,
    ⟨(some 71), none, .act, .mv (.tmp 1)⟩,
    ⟨(some 72), none, .act, .call 38 [(.tmp 71)]⟩,
    ⟨(some 73), none, .act, .call 32 [(.tmp 70), (.const (.int .i64 1)), (.tmp 72)]⟩,
    ⟨(some 4), none, .act, .mv (.tmp 73)⟩,
    ⟨(some 5), none, .act, .mv (.const (.int .i64 0))⟩])
  .ret))))))
theorem res9 : ∃ c, Tryz.f9.body = some c ∧ resCode Tryz.prog 74 c = some r9 := ⟨_, rfl, by kernel_rfl⟩
theorem rr9 : resRes Tryz.prog Tryz.f9.results.toList = some [.tmp 4, .tmp 5] := by kernel_rfl
theorem nil9 (d : List UInt64) (h : AHeap) : ACalls Tryz.prog 9 [nilP, u64s d] h (fun x h' => x = .tu [zU, eRange] ∧ h' = h) := by
  obtain ⟨c, hc1, hc2⟩ := res9
  refine ACalls.weak (ACalls.enter Tryz.func9 hc1 Tryz.ntmps9 hc2 (Nat.le_of_ble_eq_true rfl) rfl ?_)
  repeat' (first
    | refine S.nilK ?_
    | (refine S.op rfl ?_; first
      | refine R.callQ (by decide) rfl (ok_nil _) ?_
      | refine R.mv rfl ?_
      | refine R.fieldAddr rfl ?_
      | refine R.fieldAddrR rfl ?_
      | refine R.nilCheck rfl ?_
      | refine R.nilCheckR rfl ?_
      | refine R.loadR rfl rfl ?_
      | refine R.load (by decide) rfl (by (repeat' (first | assumption | exact AHeap.set_same _ _ _ | refine AHeap.get_fresh (by assumption) ?_ | (refine (AHeap.set_other _ _ ?_).trans ?_; first | exact (AHeap.fresh_set (by assumption)).1 | exact Ne.symm (AHeap.fresh_set (by assumption)).1 | exact AHeap.ne_of (by assumption) (by assumption) | exact Ne.symm (AHeap.ne_of (by assumption) (by assumption)) | exact (AHeap.fresh_set (AHeap.fresh_set (by assumption)).2).1 | exact Ne.symm (AHeap.fresh_set (AHeap.fresh_set (by assumption)).2).1 | exact AHeap.ne_of (AHeap.fresh_set (by assumption)).2 (by assumption) | exact Ne.symm (AHeap.ne_of (AHeap.fresh_set (by assumption)).2 (by assumption)) | assumption | skip) | exact (AHeap.fresh_set (by assumption)).1 | exact Ne.symm (AHeap.fresh_set (by assumption)).1 | exact AHeap.ne_of (by assumption) (by assumption) | exact Ne.symm (AHeap.ne_of (by assumption) (by assumption)) | exact (AHeap.fresh_set (AHeap.fresh_set (by assumption)).2).1 | exact Ne.symm (AHeap.fresh_set (AHeap.fresh_set (by assumption)).2).1 | exact AHeap.ne_of (AHeap.fresh_set (by assumption)).2 (by assumption) | exact Ne.symm (AHeap.ne_of (AHeap.fresh_set (by assumption)).2 (by assumption)))); first | done | fail) rfl ?_
      | refine S.addI rfl rfl (by omega) ?_
      | refine S.subI rfl rfl (by omega) ?_
      | refine S.addU rfl rfl ?_
      | refine S.subU rfl rfl ?_
      | refine S.addUc rfl (by decide) ?_
      | refine S.subUc rfl (by decide) ?_
      | refine S.arith rfl rfl rfl ?_
      | refine R.pickT rfl rfl ?_
      | refine R.pickF rfl rfl ?_
      | refine R.len rfl ?_
      | refine R.lenA rfl ?_
      | refine R.lenStr rfl ?_
      | refine S.convIU rfl (by omega) ?_
      | refine S.convUI rfl (by omega) ?_
      | refine R.convInt rfl ?_
      | refine R.not rfl ?_
      | refine R.eqPtrNil rfl rfl ?_
      | refine R.extract rfl rfl ?_
      | refine R.field rfl rfl ?_
      | refine R.alloc rfl (fun b hb => ?_)
      | refine R.box rfl rfl rfl (fun b hb => ?_)
      | refine R.build rfl rfl ?_
      | refine R.buildSl rfl rfl rfl (by decide) ?_
      | refine R.toStr rfl ?_
      | refine R.convStr rfl ?_
      | refine R.minmax rfl ?_
      | refine R.makeFunc rfl rfl ?_
      | (first | refine S.lss rfl rfl (fun hlt => ?_) (fun hlt => by exfalso; omega) | refine S.lss rfl rfl (fun hlt => by exfalso; omega) (fun hlt => ?_) | refine S.lss rfl rfl (fun hlt => ?_) (fun hlt => ?_))
      | (first | refine S.gtr rfl rfl (fun hlt => ?_) (fun hlt => by exfalso; omega) | refine S.gtr rfl rfl (fun hlt => by exfalso; omega) (fun hlt => ?_) | refine S.gtr rfl rfl (fun hlt => ?_) (fun hlt => ?_))
      | (first | refine S.leq rfl rfl (fun hlt => ?_) (fun hlt => by exfalso; omega) | refine S.leq rfl rfl (fun hlt => by exfalso; omega) (fun hlt => ?_) | refine S.leq rfl rfl (fun hlt => ?_) (fun hlt => ?_))
      | (first | refine S.geq rfl rfl (fun hlt => ?_) (fun hlt => by exfalso; omega) | refine S.geq rfl rfl (fun hlt => by exfalso; omega) (fun hlt => ?_) | refine S.geq rfl rfl (fun hlt => ?_) (fun hlt => ?_))
      | (first | refine S.eqInt rfl rfl (fun hlt => ?_) (fun hlt => by exfalso; omega) | refine S.eqInt rfl rfl (fun hlt => by exfalso; omega) (fun hlt => ?_) | refine S.eqInt rfl rfl (fun hlt => ?_) (fun hlt => ?_)))
    | (refine S.op0 rfl ?_; first | refine S.storeS rfl rfl rfl (by rfl) rfl (by first | decide | exact Nat.le_refl _ | exact Nat.le_of_ble_eq_true rfl) ?_ | refine S.store rfl rfl (by (repeat' (first | assumption | exact AHeap.set_same _ _ _ | refine AHeap.get_fresh (by assumption) ?_ | (refine (AHeap.set_other _ _ ?_).trans ?_; first | exact (AHeap.fresh_set (by assumption)).1 | exact Ne.symm (AHeap.fresh_set (by assumption)).1 | exact AHeap.ne_of (by assumption) (by assumption) | exact Ne.symm (AHeap.ne_of (by assumption) (by assumption)) | exact (AHeap.fresh_set (AHeap.fresh_set (by assumption)).2).1 | exact Ne.symm (AHeap.fresh_set (AHeap.fresh_set (by assumption)).2).1 | exact AHeap.ne_of (AHeap.fresh_set (by assumption)).2 (by assumption) | exact Ne.symm (AHeap.ne_of (AHeap.fresh_set (by assumption)).2 (by assumption)) | assumption | skip) | exact (AHeap.fresh_set (by assumption)).1 | exact Ne.symm (AHeap.fresh_set (by assumption)).1 | exact AHeap.ne_of (by assumption) (by assumption) | exact Ne.symm (AHeap.ne_of (by assumption) (by assumption)) | exact (AHeap.fresh_set (AHeap.fresh_set (by assumption)).2).1 | exact Ne.symm (AHeap.fresh_set (AHeap.fresh_set (by assumption)).2).1 | exact AHeap.ne_of (AHeap.fresh_set (by assumption)).2 (by assumption) | exact Ne.symm (AHeap.ne_of (AHeap.fresh_set (by assumption)).2 (by assumption)))); first | done | fail) rfl rfl rfl (by rfl) rfl ?_)
    | refine S.skip rfl ?_
    | refine S.skip0 rfl ?_
    | refine S.seq ?_
    | refine S.region ?_
    | refine S.regionT ?_
    | refine S.tstep ?_
    | refine S.talt ?_ ?_
    | exact S.tstop
    | refine S.tdone ?_
    | refine S.condT rfl ?_
    | refine S.condF rfl ?_
    | refine RRun.skip ?_
    | refine RRun.block ?_
    | refine RRun.inBlock ?_
    | refine RRun.exit rfl ?_)
  apply S.ret rr9
  case hx => repeat (first | exact ResAt.nil | apply ResAt.tmp rfl | apply ResAt.cellA rfl (by (repeat' (first | assumption | exact AHeap.set_same _ _ _ | refine AHeap.get_fresh (by assumption) ?_ | (refine (AHeap.set_other _ _ ?_).trans ?_; first | exact (AHeap.fresh_set (by assumption)).1 | exact Ne.symm (AHeap.fresh_set (by assumption)).1 | exact AHeap.ne_of (by assumption) (by assumption) | exact Ne.symm (AHeap.ne_of (by assumption) (by assumption)) | exact (AHeap.fresh_set (AHeap.fresh_set (by assumption)).2).1 | exact Ne.symm (AHeap.fresh_set (AHeap.fresh_set (by assumption)).2).1 | exact AHeap.ne_of (AHeap.fresh_set (by assumption)).2 (by assumption) | exact Ne.symm (AHeap.ne_of (AHeap.fresh_set (by assumption)).2 (by assumption)) | assumption | skip) | exact (AHeap.fresh_set (by assumption)).1 | exact Ne.symm (AHeap.fresh_set (by assumption)).1 | exact AHeap.ne_of (by assumption) (by assumption) | exact Ne.symm (AHeap.ne_of (by assumption) (by assumption)) | exact (AHeap.fresh_set (AHeap.fresh_set (by assumption)).2).1 | exact Ne.symm (AHeap.fresh_set (AHeap.fresh_set (by assumption)).2).1 | exact AHeap.ne_of (AHeap.fresh_set (by assumption)).2 (by assumption) | exact Ne.symm (AHeap.ne_of (AHeap.fresh_set (by assumption)).2 (by assumption)))); first | done | fail) (by rfl) | apply ResAt.cell1 rfl (by (repeat' (first | assumption | exact AHeap.set_same _ _ _ | refine AHeap.get_fresh (by assumption) ?_ | (refine (AHeap.set_other _ _ ?_).trans ?_; first | exact (AHeap.fresh_set (by assumption)).1 | exact Ne.symm (AHeap.fresh_set (by assumption)).1 | exact AHeap.ne_of (by assumption) (by assumption) | exact Ne.symm (AHeap.ne_of (by assumption) (by assumption)) | exact (AHeap.fresh_set (AHeap.fresh_set (by assumption)).2).1 | exact Ne.symm (AHeap.fresh_set (AHeap.fresh_set (by assumption)).2).1 | exact AHeap.ne_of (AHeap.fresh_set (by assumption)).2 (by assumption) | exact Ne.symm (AHeap.ne_of (AHeap.fresh_set (by assumption)).2 (by assumption)) | assumption | skip) | exact (AHeap.fresh_set (by assumption)).1 | exact Ne.symm (AHeap.fresh_set (by assumption)).1 | exact AHeap.ne_of (by assumption) (by assumption) | exact Ne.symm (AHeap.ne_of (by assumption) (by assumption)) | exact (AHeap.fresh_set (AHeap.fresh_set (by assumption)).2).1 | exact Ne.symm (AHeap.fresh_set (AHeap.fresh_set (by assumption)).2).1 | exact AHeap.ne_of (AHeap.fresh_set (by assumption)).2 (by assumption) | exact Ne.symm (AHeap.ne_of (AHeap.fresh_set (by assumption)).2 (by assumption)))); first | done | fail) (by rfl))
  exact ⟨_, _, .refl _, (by repeat (first | exact AHeap.le.refl _ | refine AHeap.le.set ?_ _ (by (repeat' (first | assumption | exact (AHeap.fresh_set (by assumption)).2 | exact (AHeap.fresh_set (AHeap.fresh_set (by assumption)).2).2 | exact (AHeap.fresh_set (AHeap.fresh_set (AHeap.fresh_set (by assumption)).2).2).2 | refine (AHeap.set_other _ _ ?_).trans ?_ | exact (AHeap.fresh_set (by assumption)).1 | exact Ne.symm (AHeap.fresh_set (by assumption)).1 | exact AHeap.ne_of (by assumption) (by assumption) | exact Ne.symm (AHeap.ne_of (by assumption) (by assumption)) | exact (AHeap.fresh_set (AHeap.fresh_set (by assumption)).2).1 | exact Ne.symm (AHeap.fresh_set (AHeap.fresh_set (by assumption)).2).1 | exact AHeap.ne_of (AHeap.fresh_set (by assumption)).2 (by assumption) | exact Ne.symm (AHeap.ne_of (AHeap.fresh_set (by assumption)).2 (by assumption)))); first | done | fail) | refine AHeap.le.both ?_ _ _)), rfl, rfl⟩

/-- (*plenum/raft.Node).Restored -/
def r10 : RCode :=
  (.seq (.region [
    ⟨(some 2), none, .act, .alloc [(.int .u64 0), (.int .u64 0), (.slice none 0 0), (.slice none 0 0)]⟩,
    ⟨(some 3), none, .act, .mv (.const (.bool false))⟩])
  (.seq (.seq (.region [
    ⟨(some 4), none, .act, .mv (.tmp 0)⟩,
    ⟨(some 5), none, .act, .call 20 [(.tmp 4)]⟩,
    ⟨(some 6), none, .act, .un .not (.tmp 5)⟩,
    ⟨(some 7), none, .act, .mv (.tmp 6)⟩,
    ⟨(some 8), (some (7, false)), .act, .mv (.tmp 0)⟩,
    ⟨(some 9), (some (7, false)), .act, .nilCheck (.tmp 8)⟩,
    ⟨(some 10), (some (7, false)), .act, .fieldAddr 14 (.tmp 9)⟩,
    ⟨(some 11), (some (7, false)), .act, .load false 1 (.tmp 10)⟩,
    ⟨(some 12), (some (7, false)), .act, .un .not (.tmp 11)⟩,
    ⟨(some 13), none, .act, .pick (.tmp 7) (.const (.bool true)) (.tmp 12)⟩])
  (.cond (.tmp 13)
   (.seq (.region [
     ⟨(some 14), none, .act, .build [(.int .u64 0), (.int .u64 0), (.slice none 0 0), (.slice none 0 0)] []⟩,
     ⟨none, none, .act, .store 4 (.tmp 2) (.tmp 14)⟩,
     ⟨(some 3), none, .act, .mv (.const (.bool false))⟩])
   .ret)
   .skip))
  (.seq (.region [
    ⟨(some 15), none, .act, .mv (.tmp 0)⟩,
    ⟨(some 16), none, .act, .nilCheck (.tmp 15)⟩,
    ⟨(some 17), none, .act, .fieldAddr 14 (.tmp 16)⟩,
    ⟨none, none, .act, .store 1 (.tmp 17) (.const (.bool false))⟩])
  (.seq (.region [
    ⟨(some 18), none, .act, .mv (.tmp 0)⟩,
    ⟨(some 19), none, .act, .nilCheck (.tmp 18)⟩,
    ⟨(some 20), none, .act, .fieldAddr 5 (.tmp 19)⟩,
    ⟨(some 21), none, .act, .load false 1 (.tmp 20)⟩,
    ⟨(some 22), none, .act, .call 39 [(.tmp 21)]⟩,
    ⟨none, none, .act, .store 4 (.tmp 2) (.tmp 22)⟩,
    ⟨(some 3), none, .act, .mv (.const (.bool true))⟩])
  .ret))))
theorem res10 : ∃ c, Tryz.f10.body = some c ∧ resCode Tryz.prog 23 c = some r10 := ⟨_, rfl, by kernel_rfl⟩
theorem rr10 : resRes Tryz.prog Tryz.f10.results.toList = some [.cell 2 true 4, .tmp 3] := by kernel_rfl
theorem nil10 (h : AHeap) : ACalls Tryz.prog 10 [nilP] h (fun x h' => x = .tu [.ag [zU, zU, nilS, nilS], ff] ∧ h' = h) := by
  obtain ⟨c, hc1, hc2⟩ := res10
  refine ACalls.weak (ACalls.enter Tryz.func10 hc1 Tryz.ntmps10 hc2 (Nat.le_of_ble_eq_true rfl) rfl ?_)
  repeat' (first
    | refine S.nilK ?_
    | (refine S.op rfl ?_; first
      | refine R.callQ (by decide) rfl (ok_nil _) ?_
      | refine R.mv rfl ?_
      | refine R.fieldAddr rfl ?_
      | refine R.fieldAddrR rfl ?_
      | refine R.nilCheck rfl ?_
      | refine R.nilCheckR rfl ?_
      | refine R.loadR rfl rfl ?_
      | refine R.load (by decide) rfl (by (repeat' (first | assumption | exact AHeap.set_same _ _ _ | refine AHeap.get_fresh (by assumption) ?_ | (refine (AHeap.set_other _ _ ?_).trans ?_; first | exact (AHeap.fresh_set (by assumption)).1 | exact Ne.symm (AHeap.fresh_set (by assumption)).1 | exact AHeap.ne_of (by assumption) (by assumption) | exact Ne.symm (AHeap.ne_of (by assumption) (by assumption)) | exact (AHeap.fresh_set (AHeap.fresh_set (by assumption)).2).1 | exact Ne.symm (AHeap.fresh_set (AHeap.fresh_set (by assumption)).2).1 | exact AHeap.ne_of (AHeap.fresh_set (by assumption)).2 (by assumption) | exact Ne.symm (AHeap.ne_of (AHeap.fresh_set (by assumption)).2 (by assumption)) | assumption | skip) | exact (AHeap.fresh_set (by assumption)).1 | exact Ne.symm (AHeap.fresh_set (by assumption)).1 | exact AHeap.ne_of (by assumption) (by assumption) | exact Ne.symm (AHeap.ne_of (by assumption) (by assumption)) | exact (AHeap.fresh_set (AHeap.fresh_set (by assumption)).2).1 | exact Ne.symm (AHeap.fresh_set (AHeap.fresh_set (by assumption)).2).1 | exact AHeap.ne_of (AHeap.fresh_set (by assumption)).2 (by assumption) | exact Ne.symm (AHeap.ne_of (AHeap.fresh_set (by assumption)).2 (by assumption)))); first | done | fail) rfl ?_
      | refine S.addI rfl rfl (by omega) ?_
      | refine S.subI rfl rfl (by omega) ?_
      | refine S.addU rfl rfl ?_
      | refine S.subU rfl rfl ?_
      | refine S.addUc rfl (by decide) ?_
      | refine S.subUc rfl (by decide) ?_
      | refine S.arith rfl rfl rfl ?_
      | refine R.pickT rfl rfl ?_
      | refine R.pickF rfl rfl ?_
      | refine R.len rfl ?_
      | refine R.lenA rfl ?_
      | refine R.lenStr rfl ?_
      | refine S.convIU rfl (by omega) ?_
      | refine S.convUI rfl (by omega) ?_
      | refine R.convInt rfl ?_
      | refine R.not rfl ?_
      | refine R.eqPtrNil rfl rfl ?_
      | refine R.extract rfl rfl ?_
      | refine R.field rfl rfl ?_
      | refine R.alloc rfl (fun b hb => ?_)
      | refine R.box rfl rfl rfl (fun b hb => ?_)
      | refine R.build rfl rfl ?_
      | refine R.buildSl rfl rfl rfl (by decide) ?_
      | refine R.toStr rfl ?_
      | refine R.convStr rfl ?_
      | refine R.minmax rfl ?_
      | refine R.makeFunc rfl rfl ?_
      | (first | refine S.lss rfl rfl (fun hlt => ?_) (fun hlt => by exfalso; omega) | refine S.lss rfl rfl (fun hlt => by exfalso; omega) (fun hlt => ?_) | refine S.lss rfl rfl (fun hlt => ?_) (fun hlt => ?_))
      | (first | refine S.gtr rfl rfl (fun hlt => ?_) (fun hlt => by exfalso; omega) | refine S.gtr rfl rfl (fun hlt => by exfalso; omega) (fun hlt => ?_) | refine S.gtr rfl rfl (fun hlt => ?_) (fun hlt => ?_))
      | (first | refine S.leq rfl rfl (fun hlt => ?_) (fun hlt => by exfalso; omega) | refine S.leq rfl rfl (fun hlt => by exfalso; omega) (fun hlt => ?_) | refine S.leq rfl rfl (fun hlt => ?_) (fun hlt => ?_))
      | (first | refine S.geq rfl rfl (fun hlt => ?_) (fun hlt => by exfalso; omega) | refine S.geq rfl rfl (fun hlt => by exfalso; omega) (fun hlt => ?_) | refine S.geq rfl rfl (fun hlt => ?_) (fun hlt => ?_))
      | (first | refine S.eqInt rfl rfl (fun hlt => ?_) (fun hlt => by exfalso; omega) | refine S.eqInt rfl rfl (fun hlt => by exfalso; omega) (fun hlt => ?_) | refine S.eqInt rfl rfl (fun hlt => ?_) (fun hlt => ?_)))
    | (refine S.op0 rfl ?_; first | refine S.storeS rfl rfl rfl (by rfl) rfl (by first | decide | exact Nat.le_refl _ | exact Nat.le_of_ble_eq_true rfl) ?_ | refine S.store rfl rfl (by (repeat' (first | assumption | exact AHeap.set_same _ _ _ | refine AHeap.get_fresh (by assumption) ?_ | (refine (AHeap.set_other _ _ ?_).trans ?_; first | exact (AHeap.fresh_set (by assumption)).1 | exact Ne.symm (AHeap.fresh_set (by assumption)).1 | exact AHeap.ne_of (by assumption) (by assumption) | exact Ne.symm (AHeap.ne_of (by assumption) (by assumption)) | exact (AHeap.fresh_set (AHeap.fresh_set (by assumption)).2).1 | exact Ne.symm (AHeap.fresh_set (AHeap.fresh_set (by assumption)).2).1 | exact AHeap.ne_of (AHeap.fresh_set (by assumption)).2 (by assumption) | exact Ne.symm (AHeap.ne_of (AHeap.fresh_set (by assumption)).2 (by assumption)) | assumption | skip) | exact (AHeap.fresh_set (by assumption)).1 | exact Ne.symm (AHeap.fresh_set (by assumption)).1 | exact AHeap.ne_of (by assumption) (by assumption) | exact Ne.symm (AHeap.ne_of (by assumption) (by assumption)) | exact (AHeap.fresh_set (AHeap.fresh_set (by assumption)).2).1 | exact Ne.symm (AHeap.fresh_set (AHeap.fresh_set (by assumption)).2).1 | exact AHeap.ne_of (AHeap.fresh_set (by assumption)).2 (by assumption) | exact Ne.symm (AHeap.ne_of (AHeap.fresh_set (by assumption)).2 (by assumption)))); first | done | fail) rfl rfl rfl (by rfl) rfl ?_)
    | refine S.skip rfl ?_
    | refine S.skip0 rfl ?_
    | refine S.seq ?_
    | refine S.region ?_
    | refine S.regionT ?_
    | refine S.tstep ?_
    | refine S.talt ?_ ?_
    | exact S.tstop
    | refine S.tdone ?_
    | refine S.condT rfl ?_
    | refine S.condF rfl ?_
    | refine RRun.skip ?_
    | refine RRun.block ?_
    | refine RRun.inBlock ?_
    | refine RRun.exit rfl ?_)
  apply S.ret rr10
  case hx => repeat (first | exact ResAt.nil | apply ResAt.tmp rfl | apply ResAt.cellA rfl (by (repeat' (first | assumption | exact AHeap.set_same _ _ _ | refine AHeap.get_fresh (by assumption) ?_ | (refine (AHeap.set_other _ _ ?_).trans ?_; first | exact (AHeap.fresh_set (by assumption)).1 | exact Ne.symm (AHeap.fresh_set (by assumption)).1 | exact AHeap.ne_of (by assumption) (by assumption) | exact Ne.symm (AHeap.ne_of (by assumption) (by assumption)) | exact (AHeap.fresh_set (AHeap.fresh_set (by assumption)).2).1 | exact Ne.symm (AHeap.fresh_set (AHeap.fresh_set (by assumption)).2).1 | exact AHeap.ne_of (AHeap.fresh_set (by assumption)).2 (by assumption) | exact Ne.symm (AHeap.ne_of (AHeap.fresh_set (by assumption)).2 (by assumption)) | assumption | skip) | exact (AHeap.fresh_set (by assumption)).1 | exact Ne.symm (AHeap.fresh_set (by assumption)).1 | exact AHeap.ne_of (by assumption) (by assumption) | exact Ne.symm (AHeap.ne_of (by assumption) (by assumption)) | exact (AHeap.fresh_set (AHeap.fresh_set (by assumption)).2).1 | exact Ne.symm (AHeap.fresh_set (AHeap.fresh_set (by assumption)).2).1 | exact AHeap.ne_of (AHeap.fresh_set (by assumption)).2 (by assumption) | exact Ne.symm (AHeap.ne_of (AHeap.fresh_set (by assumption)).2 (by assumption)))); first | done | fail) (by rfl) | apply ResAt.cell1 rfl (by (repeat' (first | assumption | exact AHeap.set_same _ _ _ | refine AHeap.get_fresh (by assumption) ?_ | (refine (AHeap.set_other _ _ ?_).trans ?_; first | exact (AHeap.fresh_set (by assumption)).1 | exact Ne.symm (AHeap.fresh_set (by assumption)).1 | exact AHeap.ne_of (by assumption) (by assumption) | exact Ne.symm (AHeap.ne_of (by assumption) (by assumption)) | exact (AHeap.fresh_set (AHeap.fresh_set (by assumption)).2).1 | exact Ne.symm (AHeap.fresh_set (AHeap.fresh_set (by assumption)).2).1 | exact AHeap.ne_of (AHeap.fresh_set (by assumption)).2 (by assumption) | exact Ne.symm (AHeap.ne_of (AHeap.fresh_set (by assumption)).2 (by assumption)) | assumption | skip) | exact (AHeap.fresh_set (by assumption)).1 | exact Ne.symm (AHeap.fresh_set (by assumption)).1 | exact AHeap.ne_of (by assumption) (by assumption) | exact Ne.symm (AHeap.ne_of (by assumption) (by assumption)) | exact (AHeap.fresh_set (AHeap.fresh_set (by assumption)).2).1 | exact Ne.symm (AHeap.fresh_set (AHeap.fresh_set (by assumption)).2).1 | exact AHeap.ne_of (AHeap.fresh_set (by assumption)).2 (by assumption) | exact Ne.symm (AHeap.ne_of (AHeap.fresh_set (by assumption)).2 (by assumption)))); first | done | fail) (by rfl))
  exact ⟨_, _, .refl _, (by repeat (first | exact AHeap.le.refl _ | refine AHeap.le.set ?_ _ (by (repeat' (first | assumption | exact (AHeap.fresh_set (by assumption)).2 | exact (AHeap.fresh_set (AHeap.fresh_set (by assumption)).2).2 | exact (AHeap.fresh_set (AHeap.fresh_set (AHeap.fresh_set (by assumption)).2).2).2 | refine (AHeap.set_other _ _ ?_).trans ?_ | exact (AHeap.fresh_set (by assumption)).1 | exact Ne.symm (AHeap.fresh_set (by assumption)).1 | exact AHeap.ne_of (by assumption) (by assumption) | exact Ne.symm (AHeap.ne_of (by assumption) (by assumption)) | exact (AHeap.fresh_set (AHeap.fresh_set (by assumption)).2).1 | exact Ne.symm (AHeap.fresh_set (AHeap.fresh_set (by assumption)).2).1 | exact AHeap.ne_of (AHeap.fresh_set (by assumption)).2 (by assumption) | exact Ne.symm (AHeap.ne_of (AHeap.fresh_set (by assumption)).2 (by assumption)))); first | done | fail) | refine AHeap.le.both ?_ _ _)), rfl, rfl⟩

theorem nil11 (h : AHeap) : ACalls Tryz.prog 11 [nilP] h (fun x h' => x = .tu [zI, zU, zU, zU] ∧ h' = h) := by
  obtain ⟨c, hc1, hc2⟩ := res11
  refine ACalls.weak (ACalls.enter Tryz.func11 hc1 Tryz.ntmps11 hc2 (Nat.le_of_ble_eq_true rfl) rfl ?_)
  repeat' (first
    | refine S.nilK ?_
    | (refine S.op rfl ?_; first
      | refine R.callQ (by decide) rfl (ok_nil _) ?_
      | refine R.mv rfl ?_
      | refine R.fieldAddr rfl ?_
      | refine R.fieldAddrR rfl ?_
      | refine R.nilCheck rfl ?_
      | refine R.nilCheckR rfl ?_
      | refine R.loadR rfl rfl ?_
      | refine R.load (by decide) rfl (by (repeat' (first | assumption | exact AHeap.set_same _ _ _ | refine AHeap.get_fresh (by assumption) ?_ | (refine (AHeap.set_other _ _ ?_).trans ?_; first | exact (AHeap.fresh_set (by assumption)).1 | exact Ne.symm (AHeap.fresh_set (by assumption)).1 | exact AHeap.ne_of (by assumption) (by assumption) | exact Ne.symm (AHeap.ne_of (by assumption) (by assumption)) | exact (AHeap.fresh_set (AHeap.fresh_set (by assumption)).2).1 | exact Ne.symm (AHeap.fresh_set (AHeap.fresh_set (by assumption)).2).1 | exact AHeap.ne_of (AHeap.fresh_set (by assumption)).2 (by assumption) | exact Ne.symm (AHeap.ne_of (AHeap.fresh_set (by assumption)).2 (by assumption)) | assumption | skip) | exact (AHeap.fresh_set (by assumption)).1 | exact Ne.symm (AHeap.fresh_set (by assumption)).1 | exact AHeap.ne_of (by assumption) (by assumption) | exact Ne.symm (AHeap.ne_of (by assumption) (by assumption)) | exact (AHeap.fresh_set (AHeap.fresh_set (by assumption)).2).1 | exact Ne.symm (AHeap.fresh_set (AHeap.fresh_set (by assumption)).2).1 | exact AHeap.ne_of (AHeap.fresh_set (by assumption)).2 (by assumption) | exact Ne.symm (AHeap.ne_of (AHeap.fresh_set (by assumption)).2 (by assumption)))); first | done | fail) rfl ?_
      | refine S.addI rfl rfl (by omega) ?_
      | refine S.subI rfl rfl (by omega) ?_
      | refine S.addU rfl rfl ?_
      | refine S.subU rfl rfl ?_
      | refine S.addUc rfl (by decide) ?_
      | refine S.subUc rfl (by decide) ?_
      | refine S.arith rfl rfl rfl ?_
      | refine R.pickT rfl rfl ?_
      | refine R.pickF rfl rfl ?_
      | refine R.len rfl ?_
      | refine R.lenA rfl ?_
      | refine R.lenStr rfl ?_
      | refine S.convIU rfl (by omega) ?_
      | refine S.convUI rfl (by omega) ?_
      | refine R.convInt rfl ?_
      | refine R.not rfl ?_
      | refine R.eqPtrNil rfl rfl ?_
      | refine R.extract rfl rfl ?_
      | refine R.field rfl rfl ?_
      | refine R.alloc rfl (fun b hb => ?_)
      | refine R.box rfl rfl rfl (fun b hb => ?_)
      | refine R.build rfl rfl ?_
      | refine R.buildSl rfl rfl rfl (by decide) ?_
      | refine R.toStr rfl ?_
      | refine R.convStr rfl ?_
      | refine R.minmax rfl ?_
      | refine R.makeFunc rfl rfl ?_
      | (first | refine S.lss rfl rfl (fun hlt => ?_) (fun hlt => by exfalso; omega) | refine S.lss rfl rfl (fun hlt => by exfalso; omega) (fun hlt => ?_) | refine S.lss rfl rfl (fun hlt => ?_) (fun hlt => ?_))
      | (first | refine S.gtr rfl rfl (fun hlt => ?_) (fun hlt => by exfalso; omega) | refine S.gtr rfl rfl (fun hlt => by exfalso; omega) (fun hlt => ?_) | refine S.gtr rfl rfl (fun hlt => ?_) (fun hlt => ?_))
      | (first | refine S.leq rfl rfl (fun hlt => ?_) (fun hlt => by exfalso; omega) | refine S.leq rfl rfl (fun hlt => by exfalso; omega) (fun hlt => ?_) | refine S.leq rfl rfl (fun hlt => ?_) (fun hlt => ?_))
      | (first | refine S.geq rfl rfl (fun hlt => ?_) (fun hlt => by exfalso; omega) | refine S.geq rfl rfl (fun hlt => by exfalso; omega) (fun hlt => ?_) | refine S.geq rfl rfl (fun hlt => ?_) (fun hlt => ?_))
      | (first | refine S.eqInt rfl rfl (fun hlt => ?_) (fun hlt => by exfalso; omega) | refine S.eqInt rfl rfl (fun hlt => by exfalso; omega) (fun hlt => ?_) | refine S.eqInt rfl rfl (fun hlt => ?_) (fun hlt => ?_)))
    | (refine S.op0 rfl ?_; first | refine S.storeS rfl rfl rfl (by rfl) rfl (by first | decide | exact Nat.le_refl _ | exact Nat.le_of_ble_eq_true rfl) ?_ | refine S.store rfl rfl (by (repeat' (first | assumption | exact AHeap.set_same _ _ _ | refine AHeap.get_fresh (by assumption) ?_ | (refine (AHeap.set_other _ _ ?_).trans ?_; first | exact (AHeap.fresh_set (by assumption)).1 | exact Ne.symm (AHeap.fresh_set (by assumption)).1 | exact AHeap.ne_of (by assumption) (by assumption) | exact Ne.symm (AHeap.ne_of (by assumption) (by assumption)) | exact (AHeap.fresh_set (AHeap.fresh_set (by assumption)).2).1 | exact Ne.symm (AHeap.fresh_set (AHeap.fresh_set (by assumption)).2).1 | exact AHeap.ne_of (AHeap.fresh_set (by assumption)).2 (by assumption) | exact Ne.symm (AHeap.ne_of (AHeap.fresh_set (by assumption)).2 (by assumption)) | assumption | skip) | exact (AHeap.fresh_set (by assumption)).1 | exact Ne.symm (AHeap.fresh_set (by assumption)).1 | exact AHeap.ne_of (by assumption) (by assumption) | exact Ne.symm (AHeap.ne_of (by assumption) (by assumption)) | exact (AHeap.fresh_set (AHeap.fresh_set (by assumption)).2).1 | exact Ne.symm (AHeap.fresh_set (AHeap.fresh_set (by assumption)).2).1 | exact AHeap.ne_of (AHeap.fresh_set (by assumption)).2 (by assumption) | exact Ne.symm (AHeap.ne_of (AHeap.fresh_set (by assumption)).2 (by assumption)))); first | done | fail) rfl rfl rfl (by rfl) rfl ?_)
    | refine S.skip rfl ?_
    | refine S.skip0 rfl ?_
    | refine S.seq ?_
    | refine S.region ?_
    | refine S.regionT ?_
    | refine S.tstep ?_
    | refine S.talt ?_ ?_
    | exact S.tstop
    | refine S.tdone ?_
    | refine S.condT rfl ?_
    | refine S.condF rfl ?_
    | refine RRun.skip ?_
    | refine RRun.block ?_
    | refine RRun.inBlock ?_
    | refine RRun.exit rfl ?_)
  apply S.ret rr11
  case hx => repeat (first | exact ResAt.nil | apply ResAt.tmp rfl | apply ResAt.cellA rfl (by (repeat' (first | assumption | exact AHeap.set_same _ _ _ | refine AHeap.get_fresh (by assumption) ?_ | (refine (AHeap.set_other _ _ ?_).trans ?_; first | exact (AHeap.fresh_set (by assumption)).1 | exact Ne.symm (AHeap.fresh_set (by assumption)).1 | exact AHeap.ne_of (by assumption) (by assumption) | exact Ne.symm (AHeap.ne_of (by assumption) (by assumption)) | exact (AHeap.fresh_set (AHeap.fresh_set (by assumption)).2).1 | exact Ne.symm (AHeap.fresh_set (AHeap.fresh_set (by assumption)).2).1 | exact AHeap.ne_of (AHeap.fresh_set (by assumption)).2 (by assumption) | exact Ne.symm (AHeap.ne_of (AHeap.fresh_set (by assumption)).2 (by assumption)) | assumption | skip) | exact (AHeap.fresh_set (by assumption)).1 | exact Ne.symm (AHeap.fresh_set (by assumption)).1 | exact AHeap.ne_of (by assumption) (by assumption) | exact Ne.symm (AHeap.ne_of (by assumption) (by assumption)) | exact (AHeap.fresh_set (AHeap.fresh_set (by assumption)).2).1 | exact Ne.symm (AHeap.fresh_set (AHeap.fresh_set (by assumption)).2).1 | exact AHeap.ne_of (AHeap.fresh_set (by assumption)).2 (by assumption) | exact Ne.symm (AHeap.ne_of (AHeap.fresh_set (by assumption)).2 (by assumption)))); first | done | fail) (by rfl) | apply ResAt.cell1 rfl (by (repeat' (first | assumption | exact AHeap.set_same _ _ _ | refine AHeap.get_fresh (by assumption) ?_ | (refine (AHeap.set_other _ _ ?_).trans ?_; first | exact (AHeap.fresh_set (by assumption)).1 | exact Ne.symm (AHeap.fresh_set (by assumption)).1 | exact AHeap.ne_of (by assumption) (by assumption) | exact Ne.symm (AHeap.ne_of (by assumption) (by assumption)) | exact (AHeap.fresh_set (AHeap.fresh_set (by assumption)).2).1 | exact Ne.symm (AHeap.fresh_set (AHeap.fresh_set (by assumption)).2).1 | exact AHeap.ne_of (AHeap.fresh_set (by assumption)).2 (by assumption) | exact Ne.symm (AHeap.ne_of (AHeap.fresh_set (by assumption)).2 (by assumption)) | assumption | skip) | exact (AHeap.fresh_set (by assumption)).1 | exact Ne.symm (AHeap.fresh_set (by assumption)).1 | exact AHeap.ne_of (by assumption) (by assumption) | exact Ne.symm (AHeap.ne_of (by assumption) (by assumption)) | exact (AHeap.fresh_set (AHeap.fresh_set (by assumption)).2).1 | exact Ne.symm (AHeap.fresh_set (AHeap.fresh_set (by assumption)).2).1 | exact AHeap.ne_of (AHeap.fresh_set (by assumption)).2 (by assumption) | exact Ne.symm (AHeap.ne_of (AHeap.fresh_set (by assumption)).2 (by assumption)))); first | done | fail) (by rfl))
  exact ⟨_, _, .refl _, (by repeat (first | exact AHeap.le.refl _ | refine AHeap.le.set ?_ _ (by (repeat' (first | assumption | exact (AHeap.fresh_set (by assumption)).2 | exact (AHeap.fresh_set (AHeap.fresh_set (by assumption)).2).2 | exact (AHeap.fresh_set (AHeap.fresh_set (AHeap.fresh_set (by assumption)).2).2).2 | refine (AHeap.set_other _ _ ?_).trans ?_ | exact (AHeap.fresh_set (by assumption)).1 | exact Ne.symm (AHeap.fresh_set (by assumption)).1 | exact AHeap.ne_of (by assumption) (by assumption) | exact Ne.symm (AHeap.ne_of (by assumption) (by assumption)) | exact (AHeap.fresh_set (AHeap.fresh_set (by assumption)).2).1 | exact Ne.symm (AHeap.fresh_set (AHeap.fresh_set (by assumption)).2).1 | exact AHeap.ne_of (AHeap.fresh_set (by assumption)).2 (by assumption) | exact Ne.symm (AHeap.ne_of (AHeap.fresh_set (by assumption)).2 (by assumption)))); first | done | fail) | refine AHeap.le.both ?_ _ _)), rfl, rfl⟩

/-- (*plenum/raft.Node).Compact -/
def r12 : RCode :=
  (.seq (.region [
    ⟨(some 6), none, .act, .mv (.const (.int .i64 0))⟩])
  (.seq (.seq (.region [
    ⟨(some 7), none, .act, .mv (.tmp 0)⟩,
    ⟨(some 8), none, .act, .call 20 [(.tmp 7)]⟩,
    ⟨(some 9), none, .act, .un .not (.tmp 8)⟩,
    ⟨(some 10), none, .act, .mv (.tmp 9)⟩,
    ⟨(some 11), (some (10, false)), .act, .mv (.tmp 1)⟩,
    ⟨(some 12), (some (10, false)), .act, .mv (.tmp 0)⟩,
    ⟨(some 13), (some (10, false)), .act, .nilCheck (.tmp 12)⟩,
    ⟨(some 14), (some (10, false)), .act, .fieldAddr 9 (.tmp 13)⟩,
    ⟨(some 15), (some (10, false)), .act, .load false 1 (.tmp 14)⟩,
    ⟨(some 16), (some (10, false)), .act, .bin .gtr (.tmp 11) (.tmp 15)⟩,
    ⟨(some 17), none, .act, .pick (.tmp 10) (.const (.bool true)) (.tmp 16)⟩])
  (.cond (.tmp 17)
   (.seq (.region [
     ⟨(some 6), none, .act, .mv (.const (.int .i64 1))⟩])
   .ret)
   .skip))
  (.seq (.region [
    ⟨(some 18), none, .act, .mv (.tmp 0)⟩,
    ⟨(some 19), none, .act, .nilCheck (.tmp 18)⟩,
    ⟨(some 20), none, .act, .fieldAddr 5 (.tmp 19)⟩,
    ⟨(some 21), none, .act, .load false 1 (.tmp 20)⟩,
    ⟨(some 22), none, .act, .mv (.tmp 1)⟩,
    ⟨(some 23), none, .act, .mv (.tmp 2)⟩,
    ⟨(some 24), none, .act, .call 40 [(.tmp 21), (.tmp 22), (.tmp 23)]⟩,
    ⟨(some 6), none, .act, .mv (.tmp 24)⟩])
  .ret)))
theorem res12 : ∃ c, Tryz.f12.body = some c ∧ resCode Tryz.prog 25 c = some r12 := ⟨_, rfl, by kernel_rfl⟩
theorem rr12 : resRes Tryz.prog Tryz.f12.results.toList = some [.tmp 6] := by kernel_rfl
theorem nil12 (i : UInt64) (h : AHeap) : ACalls Tryz.prog 12 [nilP, u64 i, nilS] h (fun x h' => x = eRange ∧ h' = h) := by
  obtain ⟨c, hc1, hc2⟩ := res12
  refine ACalls.weak (ACalls.enter Tryz.func12 hc1 Tryz.ntmps12 hc2 (Nat.le_of_ble_eq_true rfl) rfl ?_)
  repeat' (first
    | refine S.nilK ?_
    | (refine S.op rfl ?_; first
      | refine R.callQ (by decide) rfl (ok_nil _) ?_
      | refine R.mv rfl ?_
      | refine R.fieldAddr rfl ?_
      | refine R.fieldAddrR rfl ?_
      | refine R.nilCheck rfl ?_
      | refine R.nilCheckR rfl ?_
      | refine R.loadR rfl rfl ?_
      | refine R.load (by decide) rfl (by (repeat' (first | assumption | exact AHeap.set_same _ _ _ | refine AHeap.get_fresh (by assumption) ?_ | (refine (AHeap.set_other _ _ ?_).trans ?_; first | exact (AHeap.fresh_set (by assumption)).1 | exact Ne.symm (AHeap.fresh_set (by assumption)).1 | exact AHeap.ne_of (by assumption) (by assumption) | exact Ne.symm (AHeap.ne_of (by assumption) (by assumption)) | exact (AHeap.fresh_set (AHeap.fresh_set (by assumption)).2).1 | exact Ne.symm (AHeap.fresh_set (AHeap.fresh_set (by assumption)).2).1 | exact AHeap.ne_of (AHeap.fresh_set (by assumption)).2 (by assumption) | exact Ne.symm (AHeap.ne_of (AHeap.fresh_set (by assumption)).2 (by assumption)) | assumption | skip) | exact (AHeap.fresh_set (by assumption)).1 | exact Ne.symm (AHeap.fresh_set (by assumption)).1 | exact AHeap.ne_of (by assumption) (by assumption) | exact Ne.symm (AHeap.ne_of (by assumption) (by assumption)) | exact (AHeap.fresh_set (AHeap.fresh_set (by assumption)).2).1 | exact Ne.symm (AHeap.fresh_set (AHeap.fresh_set (by assumption)).2).1 | exact AHeap.ne_of (AHeap.fresh_set (by assumption)).2 (by assumption) | exact Ne.symm (AHeap.ne_of (AHeap.fresh_set (by assumption)).2 (by assumption)))); first | done | fail) rfl ?_
      | refine S.addI rfl rfl (by omega) ?_
      | refine S.subI rfl rfl (by omega) ?_
      | refine S.addU rfl rfl ?_
      | refine S.subU rfl rfl ?_
      | refine S.addUc rfl (by decide) ?_
      | refine S.subUc rfl (by decide) ?_
      | refine S.arith rfl rfl rfl ?_
      | refine R.pickT rfl rfl ?_
      | refine R.pickF rfl rfl ?_
      | refine R.len rfl ?_
      | refine R.lenA rfl ?_
      | refine R.lenStr rfl ?_
      | refine S.convIU rfl (by omega) ?_
      | refine S.convUI rfl (by omega) ?_
      | refine R.convInt rfl ?_
      | refine R.not rfl ?_
      | refine R.eqPtrNil rfl rfl ?_
      | refine R.extract rfl rfl ?_
      | refine R.field rfl rfl ?_
      | refine R.alloc rfl (fun b hb => ?_)
      | refine R.box rfl rfl rfl (fun b hb => ?_)
      | refine R.build rfl rfl ?_
      | refine R.buildSl rfl rfl rfl (by decide) ?_
      | refine R.toStr rfl ?_
      | refine R.convStr rfl ?_
      | refine R.minmax rfl ?_
      | refine R.makeFunc rfl rfl ?_
      | (first | refine S.lss rfl rfl (fun hlt => ?_) (fun hlt => by exfalso; omega) | refine S.lss rfl rfl (fun hlt => by exfalso; omega) (fun hlt => ?_) | refine S.lss rfl rfl (fun hlt => ?_) (fun hlt => ?_))
      | (first | refine S.gtr rfl rfl (fun hlt => ?_) (fun hlt => by exfalso; omega) | refine S.gtr rfl rfl (fun hlt => by exfalso; omega) (fun hlt => ?_) | refine S.gtr rfl rfl (fun hlt => ?_) (fun hlt => ?_))
      | (first | refine S.leq rfl rfl (fun hlt => ?_) (fun hlt => by exfalso; omega) | refine S.leq rfl rfl (fun hlt => by exfalso; omega) (fun hlt => ?_) | refine S.leq rfl rfl (fun hlt => ?_) (fun hlt => ?_))
      | (first | refine S.geq rfl rfl (fun hlt => ?_) (fun hlt => by exfalso; omega) | refine S.geq rfl rfl (fun hlt => by exfalso; omega) (fun hlt => ?_) | refine S.geq rfl rfl (fun hlt => ?_) (fun hlt => ?_))
      | (first | refine S.eqInt rfl rfl (fun hlt => ?_) (fun hlt => by exfalso; omega) | refine S.eqInt rfl rfl (fun hlt => by exfalso; omega) (fun hlt => ?_) | refine S.eqInt rfl rfl (fun hlt => ?_) (fun hlt => ?_)))
    | (refine S.op0 rfl ?_; first | refine S.storeS rfl rfl rfl (by rfl) rfl (by first | decide | exact Nat.le_refl _ | exact Nat.le_of_ble_eq_true rfl) ?_ | refine S.store rfl rfl (by (repeat' (first | assumption | exact AHeap.set_same _ _ _ | refine AHeap.get_fresh (by assumption) ?_ | (refine (AHeap.set_other _ _ ?_).trans ?_; first | exact (AHeap.fresh_set (by assumption)).1 | exact Ne.symm (AHeap.fresh_set (by assumption)).1 | exact AHeap.ne_of (by assumption) (by assumption) | exact Ne.symm (AHeap.ne_of (by assumption) (by assumption)) | exact (AHeap.fresh_set (AHeap.fresh_set (by assumption)).2).1 | exact Ne.symm (AHeap.fresh_set (AHeap.fresh_set (by assumption)).2).1 | exact AHeap.ne_of (AHeap.fresh_set (by assumption)).2 (by assumption) | exact Ne.symm (AHeap.ne_of (AHeap.fresh_set (by assumption)).2 (by assumption)) | assumption | skip) | exact (AHeap.fresh_set (by assumption)).1 | exact Ne.symm (AHeap.fresh_set (by assumption)).1 | exact AHeap.ne_of (by assumption) (by assumption) | exact Ne.symm (AHeap.ne_of (by assumption) (by assumption)) | exact (AHeap.fresh_set (AHeap.fresh_set (by assumption)).2).1 | exact Ne.symm (AHeap.fresh_set (AHeap.fresh_set (by assumption)).2).1 | exact AHeap.ne_of (AHeap.fresh_set (by assumption)).2 (by assumption) | exact Ne.symm (AHeap.ne_of (AHeap.fresh_set (by assumption)).2 (by assumption)))); first | done | fail) rfl rfl rfl (by rfl) rfl ?_)
    | refine S.skip rfl ?_
    | refine S.skip0 rfl ?_
    | refine S.seq ?_
    | refine S.region ?_
    | refine S.regionT ?_
    | refine S.tstep ?_
    | refine S.talt ?_ ?_
    | exact S.tstop
    | refine S.tdone ?_
    | refine S.condT rfl ?_
    | refine S.condF rfl ?_
    | refine RRun.skip ?_
    | refine RRun.block ?_
    | refine RRun.inBlock ?_
    | refine RRun.exit rfl ?_)
  apply S.ret rr12
  case hx => repeat (first | exact ResAt.nil | apply ResAt.tmp rfl | apply ResAt.cellA rfl (by (repeat' (first | assumption | exact AHeap.set_same _ _ _ | refine AHeap.get_fresh (by assumption) ?_ | (refine (AHeap.set_other _ _ ?_).trans ?_; first | exact (AHeap.fresh_set (by assumption)).1 | exact Ne.symm (AHeap.fresh_set (by assumption)).1 | exact AHeap.ne_of (by assumption) (by assumption) | exact Ne.symm (AHeap.ne_of (by assumption) (by assumption)) | exact (AHeap.fresh_set (AHeap.fresh_set (by assumption)).2).1 | exact Ne.symm (AHeap.fresh_set (AHeap.fresh_set (by assumption)).2).1 | exact AHeap.ne_of (AHeap.fresh_set (by assumption)).2 (by assumption) | exact Ne.symm (AHeap.ne_of (AHeap.fresh_set (by assumption)).2 (by assumption)) | assumption | skip) | exact (AHeap.fresh_set (by assumption)).1 | exact Ne.symm (AHeap.fresh_set (by assumption)).1 | exact AHeap.ne_of (by assumption) (by assumption) | exact Ne.symm (AHeap.ne_of (by assumption) (by assumption)) | exact (AHeap.fresh_set (AHeap.fresh_set (by assumption)).2).1 | exact Ne.symm (AHeap.fresh_set (AHeap.fresh_set (by assumption)).2).1 | exact AHeap.ne_of (AHeap.fresh_set (by assumption)).2 (by assumption) | exact Ne.symm (AHeap.ne_of (AHeap.fresh_set (by assumption)).2 (by assumption)))); first | done | fail) (by rfl) | apply ResAt.cell1 rfl (by (repeat' (first | assumption | exact AHeap.set_same _ _ _ | refine AHeap.get_fresh (by assumption) ?_ | (refine (AHeap.set_other _ _ ?_).trans ?_; first | exact (AHeap.fresh_set (by assumption)).1 | exact Ne.symm (AHeap.fresh_set (by assumption)).1 | exact AHeap.ne_of (by assumption) (by assumption) | exact Ne.symm (AHeap.ne_of (by assumption) (by assumption)) | exact (AHeap.fresh_set (AHeap.fresh_set (by assumption)).2).1 | exact Ne.symm (AHeap.fresh_set (AHeap.fresh_set (by assumption)).2).1 | exact AHeap.ne_of (AHeap.fresh_set (by assumption)).2 (by assumption) | exact Ne.symm (AHeap.ne_of (AHeap.fresh_set (by assumption)).2 (by assumption)) | assumption | skip) | exact (AHeap.fresh_set (by assumption)).1 | exact Ne.symm (AHeap.fresh_set (by assumption)).1 | exact AHeap.ne_of (by assumption) (by assumption) | exact Ne.symm (AHeap.ne_of (by assumption) (by assumption)) | exact (AHeap.fresh_set (AHeap.fresh_set (by assumption)).2).1 | exact Ne.symm (AHeap.fresh_set (AHeap.fresh_set (by assumption)).2).1 | exact AHeap.ne_of (AHeap.fresh_set (by assumption)).2 (by assumption) | exact Ne.symm (AHeap.ne_of (AHeap.fresh_set (by assumption)).2 (by assumption)))); first | done | fail) (by rfl))
  exact ⟨_, _, .refl _, (by repeat (first | exact AHeap.le.refl _ | refine AHeap.le.set ?_ _ (by (repeat' (first | assumption | exact (AHeap.fresh_set (by assumption)).2 | exact (AHeap.fresh_set (AHeap.fresh_set (by assumption)).2).2 | exact (AHeap.fresh_set (AHeap.fresh_set (AHeap.fresh_set (by assumption)).2).2).2 | refine (AHeap.set_other _ _ ?_).trans ?_ | exact (AHeap.fresh_set (by assumption)).1 | exact Ne.symm (AHeap.fresh_set (by assumption)).1 | exact AHeap.ne_of (by assumption) (by assumption) | exact Ne.symm (AHeap.ne_of (by assumption) (by assumption)) | exact (AHeap.fresh_set (AHeap.fresh_set (by assumption)).2).1 | exact Ne.symm (AHeap.fresh_set (AHeap.fresh_set (by assumption)).2).1 | exact AHeap.ne_of (AHeap.fresh_set (by assumption)).2 (by assumption) | exact Ne.symm (AHeap.ne_of (AHeap.fresh_set (by assumption)).2 (by assumption)))); first | done | fail) | refine AHeap.le.both ?_ _ _)), rfl, rfl⟩

def r13l0 : RCode :=
  (.seq (.region [
    ⟨(some 62), none, .act, .bin .lss (.tmp 61) (.tmp 60)⟩])
  (.seq (.cond (.tmp 62)
   .skip
   (.exit 0))
  (.seq (.block 1
   (.seq (.region [
     ⟨(some 63), none, .act, .indexAddr 4 (.tmp 59) (.tmp 61)⟩,
     ⟨(some 64), none, .act, .load true 4 (.tmp 63)⟩,
     ⟨(some 7), none, .act, .alloc [(.int .u64 0), (.int .u64 0), (.int .i64 0), (.slice none 0 0)]⟩,
     ⟨none, none, .act, .store 4 (.tmp 7) (.tmp 64)⟩])
   (.region [
     ⟨(some 65), none, .act, .mv (.tmp 3)⟩,
     ⟨(some 66), none, .act, .load true 4 (.tmp 7)⟩,
     ⟨(some 67), none, .act, .call 46 [(.tmp 66)]⟩,
     ⟨(some 68), none, .act, .buildSl 1 [(.slice none 0 0)] 1 [(0, (.tmp 67))]⟩,
     ⟨(some 69), none, .act, .append 1 24 [(.slice none 0 0)] (.tmp 65) (.tmp 68)⟩,
     ⟨(some 3), none, .act, .mv (.tmp 69)⟩])))
  (.region [
    ⟨(some 70), none, .act, .bin .add (.tmp 61) (.const (.int .i64 1))⟩,
    ⟨(some 61), none, .act, .mv (.tmp 70)⟩]))))
/-- (*plenum/raft.Node).Records -/
def r13 : RCode :=
  (.seq (.region [
    ⟨(some 2), none, .act, .mv (.const (.slice none 0 0))⟩])
  (.seq (.seq (.region [
    ⟨(some 8), none, .act, .mv (.tmp 0)⟩,
    ⟨(some 9), none, .act, .call 20 [(.tmp 8)]⟩,
    ⟨(some 10), none, .act, .un .not (.tmp 9)⟩])
  (.cond (.tmp 10)
   (.seq (.region [
     ⟨(some 2), none, .act, .mv (.const (.slice none 0 0))⟩])
   .ret)
   .skip))
  (.seq (.region [
    ⟨(some 3), none, .act, .mv (.const (.slice none 0 0))⟩])
  (.seq (.region [
    ⟨(some 12), none, .act, .mv (.tmp 0)⟩,
    ⟨(some 13), none, .act, .nilCheck (.tmp 12)⟩,
    ⟨(some 14), none, .act, .fieldAddr 5 (.tmp 13)⟩,
    ⟨(some 15), none, .act, .load false 1 (.tmp 14)⟩,
    ⟨(some 16), none, .act, .call 41 [(.tmp 15)]⟩,
    ⟨(some 11), none, .act, .mv (.tmp 16)⟩,
    ⟨(some 17), none, .act, .extract (.tmp 11) 0⟩,
    ⟨(some 18), none, .act, .extract (.tmp 11) 1⟩,
    ⟨(some 4), none, .act, .mv (.tmp 17)⟩,
    ⟨(some 5), none, .act, .mv (.tmp 18)⟩])
  (.seq (.seq (.region [
    ⟨(some 19), none, .act, .mv (.tmp 5)⟩])
  (.cond (.tmp 19)
   (.region [
     ⟨(some 20), none, .act, .mv (.tmp 3)⟩,
     ⟨(some 21), none, .act, .mv (.tmp 0)⟩,
     ⟨(some 22), none, .act, .nilCheck (.tmp 21)⟩,
     ⟨(some 23), none, .act, .fieldAddr 5 (.tmp 22)⟩,
     ⟨(some 24), none, .act, .load false 1 (.tmp 23)⟩,
     ⟨(some 25), none, .act, .call 39 [(.tmp 24)]⟩,
     ⟨(some 26), none, .act, .call 42 [(.tmp 25)]⟩,
     ⟨(some 27), none, .act, .buildSl 1 [(.slice none 0 0)] 1 [(0, (.tmp 26))]⟩,
     ⟨(some 28), none, .act, .append 1 24 [(.slice none 0 0)] (.tmp 20) (.tmp 27)⟩,
     ⟨(some 3), none, .act, .mv (.tmp 28)⟩])
   .skip))
  (.seq (.seq (.region [
    ⟨(some 29), none, .pure, .mv (.tmp 0)⟩,
    ⟨(some 30), none, .pure, .nilCheck (.tmp 29)⟩,
    ⟨(some 31), none, .pure, .fieldAddr 1 (.tmp 30)⟩,
    ⟨(some 32), none, .read, .load true 2 (.tmp 31)⟩,
    ⟨(some 33), none, .pure, .mv (.tmp 0)⟩,
    ⟨(some 34), none, .pure, .nilCheck (.tmp 33)⟩,
    ⟨(some 35), none, .pure, .fieldAddr 3 (.tmp 34)⟩,
    ⟨(some 36), none, .read, .load true 2 (.tmp 35)⟩,
    ⟨(some 37), none, .pure, .eq true (.agg [.int, .int]) (.tmp 32) (.tmp 36)⟩])
  (.cond (.tmp 37)
   (.region [
     ⟨(some 38), none, .act, .mv (.tmp 3)⟩,
     ⟨(some 39), none, .act, .mv (.tmp 0)⟩,
     ⟨(some 40), none, .act, .nilCheck (.tmp 39)⟩,
     ⟨(some 41), none, .act, .fieldAddr 1 (.tmp 40)⟩,
     ⟨(some 42), none, .act, .load true 2 (.tmp 41)⟩,
     ⟨(some 43), none, .act, .call 43 [(.tmp 42)]⟩,
     ⟨(some 44), none, .act, .buildSl 1 [(.slice none 0 0)] 1 [(0, (.tmp 43))]⟩,
     ⟨(some 45), none, .act, .append 1 24 [(.slice none 0 0)] (.tmp 38) (.tmp 44)⟩,
     ⟨(some 3), none, .act, .mv (.tmp 45)⟩])
   .skip))
  (.seq (.seq (.region [
    ⟨(some 46), none, .act, .mv (.tmp 4)⟩,
    ⟨(some 47), none, .act, .bin .gtr (.tmp 46) (.const (.int .u64 0))⟩])
  (.cond (.tmp 47)
   (.seq (.region [
     ⟨(some 48), none, .pure, .mv (.tmp 0)⟩,
     ⟨(some 49), none, .pure, .nilCheck (.tmp 48)⟩,
     ⟨(some 50), none, .pure, .fieldAddr 5 (.tmp 49)⟩,
     ⟨(some 51), none, .read, .load false 1 (.tmp 50)⟩,
     ⟨(some 52), none, .pure, .mv (.tmp 4)⟩,
     ⟨(some 53), none, .pure, .mv (.tmp 0)⟩,
     ⟨(some 54), none, .pure, .nilCheck (.tmp 53)⟩,
     ⟨(some 55), none, .pure, .fieldAddr 5 (.tmp 54)⟩,
     ⟨(some 56), none, .read, .load false 1 (.tmp 55)⟩,
     ⟨(some 57), none, .read, .call 45 [(.tmp 56)]⟩,
     ⟨(some 58), none, .pure, .minmax true [(.tmp 52), (.tmp 57)]⟩,
     ⟨(some 61), none, .pure, .mv (.const (.int .i64 0))⟩,
     ⟨(some 59), none, .act, .call 44 [(.tmp 51), (.tmp 58), (.const (.int .i64 1073741824))]⟩,
     ⟨(some 60), none, .pure, .len (.tmp 59)⟩])
   (.block 0
    (.loop r13l0)))
   .skip))
  (.seq (.region [
    ⟨(some 71), none, .act, .mv (.tmp 0)⟩,
    ⟨(some 72), none, .act, .mv (.tmp 0)⟩,
    ⟨(some 73), none, .act, .nilCheck (.tmp 72)⟩,
    ⟨(some 74), none, .act, .fieldAddr 1 (.tmp 73)⟩,
    ⟨(some 75), none, .act, .load true 2 (.tmp 74)⟩,
    ⟨(some 76), none, .act, .nilCheck (.tmp 71)⟩,
    ⟨(some 77), none, .act, .fieldAddr 3 (.tmp 76)⟩,
    ⟨none, none, .act, .store 2 (.tmp 77) (.tmp 75)⟩])
  (.seq (.region [
    ⟨(some 78), none, .act, .mv (.tmp 0)⟩,
    ⟨(some 79), none, .act, .nilCheck (.tmp 78)⟩,
    ⟨(some 80), none, .act, .fieldAddr 5 (.tmp 79)⟩,
    ⟨(some 81), none, .act, .load false 1 (.tmp 80)⟩,
    ⟨(some 82), none, .act, .call 47 [(.tmp 81)]⟩])
  (.seq (.region [
    ⟨(some 83), none, .act, .mv (.tmp 3)⟩,
    ⟨(some 2), none, .act, .mv (.tmp 83)⟩])
  .ret))))))))))
theorem res13 : ∃ c, Tryz.f13.body = some c ∧ resCode Tryz.prog 84 c = some r13 := ⟨_, rfl, by kernel_rfl⟩
theorem rr13 : resRes Tryz.prog Tryz.f13.results.toList = some [.tmp 2] := by kernel_rfl
theorem nil13 (h : AHeap) : ACalls Tryz.prog 13 [nilP] h (fun x h' => x = nilS ∧ h' = h) := by
  obtain ⟨c, hc1, hc2⟩ := res13
  refine ACalls.weak (ACalls.enter Tryz.func13 hc1 Tryz.ntmps13 hc2 (Nat.le_of_ble_eq_true rfl) rfl ?_)
  repeat' (first
    | refine S.nilK ?_
    | (refine S.op rfl ?_; first
      | refine R.callQ (by decide) rfl (ok_nil _) ?_
      | refine R.mv rfl ?_
      | refine R.fieldAddr rfl ?_
      | refine R.fieldAddrR rfl ?_
      | refine R.nilCheck rfl ?_
      | refine R.nilCheckR rfl ?_
      | refine R.loadR rfl rfl ?_
      | refine R.load (by decide) rfl (by (repeat' (first | assumption | exact AHeap.set_same _ _ _ | refine AHeap.get_fresh (by assumption) ?_ | (refine (AHeap.set_other _ _ ?_).trans ?_; first | exact (AHeap.fresh_set (by assumption)).1 | exact Ne.symm (AHeap.fresh_set (by assumption)).1 | exact AHeap.ne_of (by assumption) (by assumption) | exact Ne.symm (AHeap.ne_of (by assumption) (by assumption)) | exact (AHeap.fresh_set (AHeap.fresh_set (by assumption)).2).1 | exact Ne.symm (AHeap.fresh_set (AHeap.fresh_set (by assumption)).2).1 | exact AHeap.ne_of (AHeap.fresh_set (by assumption)).2 (by assumption) | exact Ne.symm (AHeap.ne_of (AHeap.fresh_set (by assumption)).2 (by assumption)) | assumption | skip) | exact (AHeap.fresh_set (by assumption)).1 | exact Ne.symm (AHeap.fresh_set (by assumption)).1 | exact AHeap.ne_of (by assumption) (by assumption) | exact Ne.symm (AHeap.ne_of (by assumption) (by assumption)) | exact (AHeap.fresh_set (AHeap.fresh_set (by assumption)).2).1 | exact Ne.symm (AHeap.fresh_set (AHeap.fresh_set (by assumption)).2).1 | exact AHeap.ne_of (AHeap.fresh_set (by assumption)).2 (by assumption) | exact Ne.symm (AHeap.ne_of (AHeap.fresh_set (by assumption)).2 (by assumption)))); first | done | fail) rfl ?_
      | refine S.addI rfl rfl (by omega) ?_
      | refine S.subI rfl rfl (by omega) ?_
      | refine S.addU rfl rfl ?_
      | refine S.subU rfl rfl ?_
      | refine S.addUc rfl (by decide) ?_
      | refine S.subUc rfl (by decide) ?_
      | refine S.arith rfl rfl rfl ?_
      | refine R.pickT rfl rfl ?_
      | refine R.pickF rfl rfl ?_
      | refine R.len rfl ?_
      | refine R.lenA rfl ?_
      | refine R.lenStr rfl ?_
      | refine S.convIU rfl (by omega) ?_
      | refine S.convUI rfl (by omega) ?_
      | refine R.convInt rfl ?_
      | refine R.not rfl ?_
      | refine R.eqPtrNil rfl rfl ?_
      | refine R.extract rfl rfl ?_
      | refine R.field rfl rfl ?_
      | refine R.alloc rfl (fun b hb => ?_)
      | refine R.box rfl rfl rfl (fun b hb => ?_)
      | refine R.build rfl rfl ?_
      | refine R.buildSl rfl rfl rfl (by decide) ?_
      | refine R.toStr rfl ?_
      | refine R.convStr rfl ?_
      | refine R.minmax rfl ?_
      | refine R.makeFunc rfl rfl ?_
      | (first | refine S.lss rfl rfl (fun hlt => ?_) (fun hlt => by exfalso; omega) | refine S.lss rfl rfl (fun hlt => by exfalso; omega) (fun hlt => ?_) | refine S.lss rfl rfl (fun hlt => ?_) (fun hlt => ?_))
      | (first | refine S.gtr rfl rfl (fun hlt => ?_) (fun hlt => by exfalso; omega) | refine S.gtr rfl rfl (fun hlt => by exfalso; omega) (fun hlt => ?_) | refine S.gtr rfl rfl (fun hlt => ?_) (fun hlt => ?_))
      | (first | refine S.leq rfl rfl (fun hlt => ?_) (fun hlt => by exfalso; omega) | refine S.leq rfl rfl (fun hlt => by exfalso; omega) (fun hlt => ?_) | refine S.leq rfl rfl (fun hlt => ?_) (fun hlt => ?_))
      | (first | refine S.geq rfl rfl (fun hlt => ?_) (fun hlt => by exfalso; omega) | refine S.geq rfl rfl (fun hlt => by exfalso; omega) (fun hlt => ?_) | refine S.geq rfl rfl (fun hlt => ?_) (fun hlt => ?_))
      | (first | refine S.eqInt rfl rfl (fun hlt => ?_) (fun hlt => by exfalso; omega) | refine S.eqInt rfl rfl (fun hlt => by exfalso; omega) (fun hlt => ?_) | refine S.eqInt rfl rfl (fun hlt => ?_) (fun hlt => ?_)))
    | (refine S.op0 rfl ?_; first | refine S.storeS rfl rfl rfl (by rfl) rfl (by first | decide | exact Nat.le_refl _ | exact Nat.le_of_ble_eq_true rfl) ?_ | refine S.store rfl rfl (by (repeat' (first | assumption | exact AHeap.set_same _ _ _ | refine AHeap.get_fresh (by assumption) ?_ | (refine (AHeap.set_other _ _ ?_).trans ?_; first | exact (AHeap.fresh_set (by assumption)).1 | exact Ne.symm (AHeap.fresh_set (by assumption)).1 | exact AHeap.ne_of (by assumption) (by assumption) | exact Ne.symm (AHeap.ne_of (by assumption) (by assumption)) | exact (AHeap.fresh_set (AHeap.fresh_set (by assumption)).2).1 | exact Ne.symm (AHeap.fresh_set (AHeap.fresh_set (by assumption)).2).1 | exact AHeap.ne_of (AHeap.fresh_set (by assumption)).2 (by assumption) | exact Ne.symm (AHeap.ne_of (AHeap.fresh_set (by assumption)).2 (by assumption)) | assumption | skip) | exact (AHeap.fresh_set (by assumption)).1 | exact Ne.symm (AHeap.fresh_set (by assumption)).1 | exact AHeap.ne_of (by assumption) (by assumption) | exact Ne.symm (AHeap.ne_of (by assumption) (by assumption)) | exact (AHeap.fresh_set (AHeap.fresh_set (by assumption)).2).1 | exact Ne.symm (AHeap.fresh_set (AHeap.fresh_set (by assumption)).2).1 | exact AHeap.ne_of (AHeap.fresh_set (by assumption)).2 (by assumption) | exact Ne.symm (AHeap.ne_of (AHeap.fresh_set (by assumption)).2 (by assumption)))); first | done | fail) rfl rfl rfl (by rfl) rfl ?_)
    | refine S.skip rfl ?_
    | refine S.skip0 rfl ?_
    | refine S.seq ?_
    | refine S.region ?_
    | refine S.regionT ?_
    | refine S.tstep ?_
    | refine S.talt ?_ ?_
    | exact S.tstop
    | refine S.tdone ?_
    | refine S.condT rfl ?_
    | refine S.condF rfl ?_
    | refine RRun.skip ?_
    | refine RRun.block ?_
    | refine RRun.inBlock ?_
    | refine RRun.exit rfl ?_)
  apply S.ret rr13
  case hx => repeat (first | exact ResAt.nil | apply ResAt.tmp rfl | apply ResAt.cellA rfl (by (repeat' (first | assumption | exact AHeap.set_same _ _ _ | refine AHeap.get_fresh (by assumption) ?_ | (refine (AHeap.set_other _ _ ?_).trans ?_; first | exact (AHeap.fresh_set (by assumption)).1 | exact Ne.symm (AHeap.fresh_set (by assumption)).1 | exact AHeap.ne_of (by assumption) (by assumption) | exact Ne.symm (AHeap.ne_of (by assumption) (by assumption)) | exact (AHeap.fresh_set (AHeap.fresh_set (by assumption)).2).1 | exact Ne.symm (AHeap.fresh_set (AHeap.fresh_set (by assumption)).2).1 | exact AHeap.ne_of (AHeap.fresh_set (by assumption)).2 (by assumption) | exact Ne.symm (AHeap.ne_of (AHeap.fresh_set (by assumption)).2 (by assumption)) | assumption | skip) | exact (AHeap.fresh_set (by assumption)).1 | exact Ne.symm (AHeap.fresh_set (by assumption)).1 | exact AHeap.ne_of (by assumption) (by assumption) | exact Ne.symm (AHeap.ne_of (by assumption) (by assumption)) | exact (AHeap.fresh_set (AHeap.fresh_set (by assumption)).2).1 | exact Ne.symm (AHeap.fresh_set (AHeap.fresh_set (by assumption)).2).1 | exact AHeap.ne_of (AHeap.fresh_set (by assumption)).2 (by assumption) | exact Ne.symm (AHeap.ne_of (AHeap.fresh_set (by assumption)).2 (by assumption)))); first | done | fail) (by rfl) | apply ResAt.cell1 rfl (by (repeat' (first | assumption | exact AHeap.set_same _ _ _ | refine AHeap.get_fresh (by assumption) ?_ | (refine (AHeap.set_other _ _ ?_).trans ?_; first | exact (AHeap.fresh_set (by assumption)).1 | exact Ne.symm (AHeap.fresh_set (by assumption)).1 | exact AHeap.ne_of (by assumption) (by assumption) | exact Ne.symm (AHeap.ne_of (by assumption) (by assumption)) | exact (AHeap.fresh_set (AHeap.fresh_set (by assumption)).2).1 | exact Ne.symm (AHeap.fresh_set (AHeap.fresh_set (by assumption)).2).1 | exact AHeap.ne_of (AHeap.fresh_set (by assumption)).2 (by assumption) | exact Ne.symm (AHeap.ne_of (AHeap.fresh_set (by assumption)).2 (by assumption)) | assumption | skip) | exact (AHeap.fresh_set (by assumption)).1 | exact Ne.symm (AHeap.fresh_set (by assumption)).1 | exact AHeap.ne_of (by assumption) (by assumption) | exact Ne.symm (AHeap.ne_of (by assumption) (by assumption)) | exact (AHeap.fresh_set (AHeap.fresh_set (by assumption)).2).1 | exact Ne.symm (AHeap.fresh_set (AHeap.fresh_set (by assumption)).2).1 | exact AHeap.ne_of (AHeap.fresh_set (by assumption)).2 (by assumption) | exact Ne.symm (AHeap.ne_of (AHeap.fresh_set (by assumption)).2 (by assumption)))); first | done | fail) (by rfl))
  exact ⟨_, _, .refl _, (by repeat (first | exact AHeap.le.refl _ | refine AHeap.le.set ?_ _ (by (repeat' (first | assumption | exact (AHeap.fresh_set (by assumption)).2 | exact (AHeap.fresh_set (AHeap.fresh_set (by assumption)).2).2 | exact (AHeap.fresh_set (AHeap.fresh_set (AHeap.fresh_set (by assumption)).2).2).2 | refine (AHeap.set_other _ _ ?_).trans ?_ | exact (AHeap.fresh_set (by assumption)).1 | exact Ne.symm (AHeap.fresh_set (by assumption)).1 | exact AHeap.ne_of (by assumption) (by assumption) | exact Ne.symm (AHeap.ne_of (by assumption) (by assumption)) | exact (AHeap.fresh_set (AHeap.fresh_set (by assumption)).2).1 | exact Ne.symm (AHeap.fresh_set (AHeap.fresh_set (by assumption)).2).1 | exact AHeap.ne_of (AHeap.fresh_set (by assumption)).2 (by assumption) | exact Ne.symm (AHeap.ne_of (AHeap.fresh_set (by assumption)).2 (by assumption)))); first | done | fail) | refine AHeap.le.both ?_ _ _)), rfl, rfl⟩

/-- (*plenum/raft.Node).Outbox -/
def r14 : RCode :=
  (.seq (.region [
    ⟨(some 2), none, .act, .mv (.const (.slice none 0 0))⟩])
  (.seq (.seq (.region [
    ⟨(some 4), none, .act, .mv (.tmp 0)⟩,
    ⟨(some 5), none, .act, .call 20 [(.tmp 4)]⟩,
    ⟨(some 6), none, .act, .un .not (.tmp 5)⟩])
  (.cond (.tmp 6)
   (.seq (.region [
     ⟨(some 2), none, .act, .mv (.const (.slice none 0 0))⟩])
   .ret)
   .skip))
  (.seq (.region [
    ⟨(some 7), none, .act, .mv (.tmp 0)⟩,
    ⟨(some 8), none, .act, .nilCheck (.tmp 7)⟩,
    ⟨(some 9), none, .act, .fieldAddr 13 (.tmp 8)⟩,
    ⟨(some 10), none, .act, .load false 1 (.tmp 9)⟩,
    ⟨(some 3), none, .act, .mv (.tmp 10)⟩])
  (.seq (.region [
    ⟨(some 11), none, .act, .mv (.tmp 0)⟩,
    ⟨(some 12), none, .act, .nilCheck (.tmp 11)⟩,
    ⟨(some 13), none, .act, .fieldAddr 13 (.tmp 12)⟩,
    ⟨none, none, .act, .store 1 (.tmp 13) (.const (.slice none 0 0))⟩])
  (.seq (.region [
    ⟨(some 14), none, .act, .mv (.tmp 3)⟩,
    ⟨(some 2), none, .act, .mv (.tmp 14)⟩])
  .ret)))))
theorem res14 : ∃ c, Tryz.f14.body = some c ∧ resCode Tryz.prog 15 c = some r14 := ⟨_, rfl, by kernel_rfl⟩
theorem rr14 : resRes Tryz.prog Tryz.f14.results.toList = some [.tmp 2] := by kernel_rfl
theorem nil14 (h : AHeap) : ACalls Tryz.prog 14 [nilP] h (fun x h' => x = nilS ∧ h' = h) := by
  obtain ⟨c, hc1, hc2⟩ := res14
  refine ACalls.weak (ACalls.enter Tryz.func14 hc1 Tryz.ntmps14 hc2 (Nat.le_of_ble_eq_true rfl) rfl ?_)
  repeat' (first
    | refine S.nilK ?_
    | (refine S.op rfl ?_; first
      | refine R.callQ (by decide) rfl (ok_nil _) ?_
      | refine R.mv rfl ?_
      | refine R.fieldAddr rfl ?_
      | refine R.fieldAddrR rfl ?_
      | refine R.nilCheck rfl ?_
      | refine R.nilCheckR rfl ?_
      | refine R.loadR rfl rfl ?_
      | refine R.load (by decide) rfl (by (repeat' (first | assumption | exact AHeap.set_same _ _ _ | refine AHeap.get_fresh (by assumption) ?_ | (refine (AHeap.set_other _ _ ?_).trans ?_; first | exact (AHeap.fresh_set (by assumption)).1 | exact Ne.symm (AHeap.fresh_set (by assumption)).1 | exact AHeap.ne_of (by assumption) (by assumption) | exact Ne.symm (AHeap.ne_of (by assumption) (by assumption)) | exact (AHeap.fresh_set (AHeap.fresh_set (by assumption)).2).1 | exact Ne.symm (AHeap.fresh_set (AHeap.fresh_set (by assumption)).2).1 | exact AHeap.ne_of (AHeap.fresh_set (by assumption)).2 (by assumption) | exact Ne.symm (AHeap.ne_of (AHeap.fresh_set (by assumption)).2 (by assumption)) | assumption | skip) | exact (AHeap.fresh_set (by assumption)).1 | exact Ne.symm (AHeap.fresh_set (by assumption)).1 | exact AHeap.ne_of (by assumption) (by assumption) | exact Ne.symm (AHeap.ne_of (by assumption) (by assumption)) | exact (AHeap.fresh_set (AHeap.fresh_set (by assumption)).2).1 | exact Ne.symm (AHeap.fresh_set (AHeap.fresh_set (by assumption)).2).1 | exact AHeap.ne_of (AHeap.fresh_set (by assumption)).2 (by assumption) | exact Ne.symm (AHeap.ne_of (AHeap.fresh_set (by assumption)).2 (by assumption)))); first | done | fail) rfl ?_
      | refine S.addI rfl rfl (by omega) ?_
      | refine S.subI rfl rfl (by omega) ?_
      | refine S.addU rfl rfl ?_
      | refine S.subU rfl rfl ?_
      | refine S.addUc rfl (by decide) ?_
      | refine S.subUc rfl (by decide) ?_
      | refine S.arith rfl rfl rfl ?_
      | refine R.pickT rfl rfl ?_
      | refine R.pickF rfl rfl ?_
      | refine R.len rfl ?_
      | refine R.lenA rfl ?_
      | refine R.lenStr rfl ?_
      | refine S.convIU rfl (by omega) ?_
      | refine S.convUI rfl (by omega) ?_
      | refine R.convInt rfl ?_
      | refine R.not rfl ?_
      | refine R.eqPtrNil rfl rfl ?_
      | refine R.extract rfl rfl ?_
      | refine R.field rfl rfl ?_
      | refine R.alloc rfl (fun b hb => ?_)
      | refine R.box rfl rfl rfl (fun b hb => ?_)
      | refine R.build rfl rfl ?_
      | refine R.buildSl rfl rfl rfl (by decide) ?_
      | refine R.toStr rfl ?_
      | refine R.convStr rfl ?_
      | refine R.minmax rfl ?_
      | refine R.makeFunc rfl rfl ?_
      | (first | refine S.lss rfl rfl (fun hlt => ?_) (fun hlt => by exfalso; omega) | refine S.lss rfl rfl (fun hlt => by exfalso; omega) (fun hlt => ?_) | refine S.lss rfl rfl (fun hlt => ?_) (fun hlt => ?_))
      | (first | refine S.gtr rfl rfl (fun hlt => ?_) (fun hlt => by exfalso; omega) | refine S.gtr rfl rfl (fun hlt => by exfalso; omega) (fun hlt => ?_) | refine S.gtr rfl rfl (fun hlt => ?_) (fun hlt => ?_))
      | (first | refine S.leq rfl rfl (fun hlt => ?_) (fun hlt => by exfalso; omega) | refine S.leq rfl rfl (fun hlt => by exfalso; omega) (fun hlt => ?_) | refine S.leq rfl rfl (fun hlt => ?_) (fun hlt => ?_))
      | (first | refine S.geq rfl rfl (fun hlt => ?_) (fun hlt => by exfalso; omega) | refine S.geq rfl rfl (fun hlt => by exfalso; omega) (fun hlt => ?_) | refine S.geq rfl rfl (fun hlt => ?_) (fun hlt => ?_))
      | (first | refine S.eqInt rfl rfl (fun hlt => ?_) (fun hlt => by exfalso; omega) | refine S.eqInt rfl rfl (fun hlt => by exfalso; omega) (fun hlt => ?_) | refine S.eqInt rfl rfl (fun hlt => ?_) (fun hlt => ?_)))
    | (refine S.op0 rfl ?_; first | refine S.storeS rfl rfl rfl (by rfl) rfl (by first | decide | exact Nat.le_refl _ | exact Nat.le_of_ble_eq_true rfl) ?_ | refine S.store rfl rfl (by (repeat' (first | assumption | exact AHeap.set_same _ _ _ | refine AHeap.get_fresh (by assumption) ?_ | (refine (AHeap.set_other _ _ ?_).trans ?_; first | exact (AHeap.fresh_set (by assumption)).1 | exact Ne.symm (AHeap.fresh_set (by assumption)).1 | exact AHeap.ne_of (by assumption) (by assumption) | exact Ne.symm (AHeap.ne_of (by assumption) (by assumption)) | exact (AHeap.fresh_set (AHeap.fresh_set (by assumption)).2).1 | exact Ne.symm (AHeap.fresh_set (AHeap.fresh_set (by assumption)).2).1 | exact AHeap.ne_of (AHeap.fresh_set (by assumption)).2 (by assumption) | exact Ne.symm (AHeap.ne_of (AHeap.fresh_set (by assumption)).2 (by assumption)) | assumption | skip) | exact (AHeap.fresh_set (by assumption)).1 | exact Ne.symm (AHeap.fresh_set (by assumption)).1 | exact AHeap.ne_of (by assumption) (by assumption) | exact Ne.symm (AHeap.ne_of (by assumption) (by assumption)) | exact (AHeap.fresh_set (AHeap.fresh_set (by assumption)).2).1 | exact Ne.symm (AHeap.fresh_set (AHeap.fresh_set (by assumption)).2).1 | exact AHeap.ne_of (AHeap.fresh_set (by assumption)).2 (by assumption) | exact Ne.symm (AHeap.ne_of (AHeap.fresh_set (by assumption)).2 (by assumption)))); first | done | fail) rfl rfl rfl (by rfl) rfl ?_)
    | refine S.skip rfl ?_
    | refine S.skip0 rfl ?_
    | refine S.seq ?_
    | refine S.region ?_
    | refine S.regionT ?_
    | refine S.tstep ?_
    | refine S.talt ?_ ?_
    | exact S.tstop
    | refine S.tdone ?_
    | refine S.condT rfl ?_
    | refine S.condF rfl ?_
    | refine RRun.skip ?_
    | refine RRun.block ?_
    | refine RRun.inBlock ?_
    | refine RRun.exit rfl ?_)
  apply S.ret rr14
  case hx => repeat (first | exact ResAt.nil | apply ResAt.tmp rfl | apply ResAt.cellA rfl (by (repeat' (first | assumption | exact AHeap.set_same _ _ _ | refine AHeap.get_fresh (by assumption) ?_ | (refine (AHeap.set_other _ _ ?_).trans ?_; first | exact (AHeap.fresh_set (by assumption)).1 | exact Ne.symm (AHeap.fresh_set (by assumption)).1 | exact AHeap.ne_of (by assumption) (by assumption) | exact Ne.symm (AHeap.ne_of (by assumption) (by assumption)) | exact (AHeap.fresh_set (AHeap.fresh_set (by assumption)).2).1 | exact Ne.symm (AHeap.fresh_set (AHeap.fresh_set (by assumption)).2).1 | exact AHeap.ne_of (AHeap.fresh_set (by assumption)).2 (by assumption) | exact Ne.symm (AHeap.ne_of (AHeap.fresh_set (by assumption)).2 (by assumption)) | assumption | skip) | exact (AHeap.fresh_set (by assumption)).1 | exact Ne.symm (AHeap.fresh_set (by assumption)).1 | exact AHeap.ne_of (by assumption) (by assumption) | exact Ne.symm (AHeap.ne_of (by assumption) (by assumption)) | exact (AHeap.fresh_set (AHeap.fresh_set (by assumption)).2).1 | exact Ne.symm (AHeap.fresh_set (AHeap.fresh_set (by assumption)).2).1 | exact AHeap.ne_of (AHeap.fresh_set (by assumption)).2 (by assumption) | exact Ne.symm (AHeap.ne_of (AHeap.fresh_set (by assumption)).2 (by assumption)))); first | done | fail) (by rfl) | apply ResAt.cell1 rfl (by (repeat' (first | assumption | exact AHeap.set_same _ _ _ | refine AHeap.get_fresh (by assumption) ?_ | (refine (AHeap.set_other _ _ ?_).trans ?_; first | exact (AHeap.fresh_set (by assumption)).1 | exact Ne.symm (AHeap.fresh_set (by assumption)).1 | exact AHeap.ne_of (by assumption) (by assumption) | exact Ne.symm (AHeap.ne_of (by assumption) (by assumption)) | exact (AHeap.fresh_set (AHeap.fresh_set (by assumption)).2).1 | exact Ne.symm (AHeap.fresh_set (AHeap.fresh_set (by assumption)).2).1 | exact AHeap.ne_of (AHeap.fresh_set (by assumption)).2 (by assumption) | exact Ne.symm (AHeap.ne_of (AHeap.fresh_set (by assumption)).2 (by assumption)) | assumption | skip) | exact (AHeap.fresh_set (by assumption)).1 | exact Ne.symm (AHeap.fresh_set (by assumption)).1 | exact AHeap.ne_of (by assumption) (by assumption) | exact Ne.symm (AHeap.ne_of (by assumption) (by assumption)) | exact (AHeap.fresh_set (AHeap.fresh_set (by assumption)).2).1 | exact Ne.symm (AHeap.fresh_set (AHeap.fresh_set (by assumption)).2).1 | exact AHeap.ne_of (AHeap.fresh_set (by assumption)).2 (by assumption) | exact Ne.symm (AHeap.ne_of (AHeap.fresh_set (by assumption)).2 (by assumption)))); first | done | fail) (by rfl))
  exact ⟨_, _, .refl _, (by repeat (first | exact AHeap.le.refl _ | refine AHeap.le.set ?_ _ (by (repeat' (first | assumption | exact (AHeap.fresh_set (by assumption)).2 | exact (AHeap.fresh_set (AHeap.fresh_set (by assumption)).2).2 | exact (AHeap.fresh_set (AHeap.fresh_set (AHeap.fresh_set (by assumption)).2).2).2 | refine (AHeap.set_other _ _ ?_).trans ?_ | exact (AHeap.fresh_set (by assumption)).1 | exact Ne.symm (AHeap.fresh_set (by assumption)).1 | exact AHeap.ne_of (by assumption) (by assumption) | exact Ne.symm (AHeap.ne_of (by assumption) (by assumption)) | exact (AHeap.fresh_set (AHeap.fresh_set (by assumption)).2).1 | exact Ne.symm (AHeap.fresh_set (AHeap.fresh_set (by assumption)).2).1 | exact AHeap.ne_of (AHeap.fresh_set (by assumption)).2 (by assumption) | exact Ne.symm (AHeap.ne_of (AHeap.fresh_set (by assumption)).2 (by assumption)))); first | done | fail) | refine AHeap.le.both ?_ _ _)), rfl, rfl⟩

/-- (*plenum/raft.Node).Committed -/
def r15 : RCode :=
  (.seq (.region [
    ⟨(some 4), none, .act, .mv (.const (.slice none 0 0))⟩])
  (.seq (.seq (.region [
    ⟨(some 6), none, .pure, .mv (.tmp 0)⟩,
    ⟨(some 7), none, .act, .call 20 [(.tmp 6)]⟩,
    ⟨(some 8), none, .pure, .un .not (.tmp 7)⟩,
    ⟨(some 9), none, .pure, .mv (.tmp 8)⟩,
    ⟨(some 10), (some (9, false)), .pure, .mv (.tmp 0)⟩,
    ⟨(some 11), (some (9, false)), .pure, .nilCheck (.tmp 10)⟩,
    ⟨(some 12), (some (9, false)), .pure, .fieldAddr 9 (.tmp 11)⟩,
    ⟨(some 13), (some (9, false)), .read, .load false 1 (.tmp 12)⟩,
    ⟨(some 14), (some (9, false)), .pure, .mv (.tmp 0)⟩,
    ⟨(some 15), (some (9, false)), .pure, .nilCheck (.tmp 14)⟩,
    ⟨(some 16), (some (9, false)), .pure, .fieldAddr 8 (.tmp 15)⟩,
    ⟨(some 17), (some (9, false)), .read, .load false 1 (.tmp 16)⟩,
    ⟨(some 18), (some (9, false)), .pure, .bin .geq (.tmp 13) (.tmp 17)⟩,
    ⟨(some 19), none, .pure, .pick (.tmp 9) (.const (.bool true)) (.tmp 18)⟩])
  (.cond (.tmp 19)
   (.seq (.region [
     ⟨(some 4), none, .act, .mv (.const (.slice none 0 0))⟩])
   .ret)
   .skip))
  (.seq (.region [
    ⟨(some 20), none, .pure, .mv (.tmp 0)⟩,
    ⟨(some 21), none, .pure, .nilCheck (.tmp 20)⟩,
    ⟨(some 22), none, .pure, .fieldAddr 5 (.tmp 21)⟩,
    ⟨(some 23), none, .read, .load false 1 (.tmp 22)⟩,
    ⟨(some 24), none, .pure, .mv (.tmp 0)⟩,
    ⟨(some 25), none, .pure, .nilCheck (.tmp 24)⟩,
    ⟨(some 26), none, .pure, .fieldAddr 9 (.tmp 25)⟩,
    ⟨(some 27), none, .read, .load false 1 (.tmp 26)⟩,
    ⟨(some 28), none, .pure, .bin .add (.tmp 27) (.const (.int .u64 1))⟩,
    ⟨(some 29), none, .pure, .mv (.tmp 1)⟩,
    ⟨(some 30), none, .pure, .mv (.tmp 0)⟩,
    ⟨(some 31), none, .pure, .nilCheck (.tmp 30)⟩,
    ⟨(some 32), none, .pure, .fieldAddr 8 (.tmp 31)⟩,
    ⟨(some 33), none, .read, .load false 1 (.tmp 32)⟩,
    ⟨(some 34), none, .pure, .mv (.tmp 0)⟩,
    ⟨(some 35), none, .pure, .nilCheck (.tmp 34)⟩,
    ⟨(some 36), none, .pure, .fieldAddr 9 (.tmp 35)⟩,
    ⟨(some 37), none, .read, .load false 1 (.tmp 36)⟩,
    ⟨(some 38), none, .pure, .bin .sub (.tmp 33) (.tmp 37)⟩,
    ⟨(some 39), none, .pure, .convInt .i64 (.tmp 38)⟩,
    ⟨(some 40), none, .pure, .minmax false [(.tmp 29), (.tmp 39)]⟩,
    ⟨(some 41), none, .act, .call 44 [(.tmp 23), (.tmp 28), (.tmp 40)]⟩,
    ⟨(some 5), none, .pure, .mv (.tmp 41)⟩])
  (.seq (.region [
    ⟨(some 42), none, .act, .mv (.tmp 0)⟩,
    ⟨(some 43), none, .act, .nilCheck (.tmp 42)⟩,
    ⟨(some 44), none, .act, .fieldAddr 9 (.tmp 43)⟩,
    ⟨(some 45), none, .act, .load false 1 (.tmp 44)⟩,
    ⟨(some 46), none, .act, .mv (.tmp 5)⟩,
    ⟨(some 47), none, .act, .len (.tmp 46)⟩,
    ⟨(some 48), none, .act, .convInt .u64 (.tmp 47)⟩,
    ⟨(some 49), none, .act, .bin .add (.tmp 45) (.tmp 48)⟩,
    ⟨(some 50), none, .act, .nilCheck (.tmp 42)⟩,
    ⟨(some 51), none, .act, .fieldAddr 9 (.tmp 50)⟩,
    ⟨none, none, .act, .store 1 (.tmp 51) (.tmp 49)⟩])
  (.seq (.region [
    ⟨(some 52), none, .act, .mv (.tmp 5)⟩,
    ⟨(some 4), none, .act, .mv (.tmp 52)⟩])
  .ret)))))
theorem res15 : ∃ c, Tryz.f15.body = some c ∧ resCode Tryz.prog 53 c = some r15 := ⟨_, rfl, by kernel_rfl⟩
theorem rr15 : resRes Tryz.prog Tryz.f15.results.toList = some [.tmp 4] := by kernel_rfl
theorem nil15 (h : AHeap) : ACalls Tryz.prog 15 [nilP, .v (.int .i64 9)] h (fun x h' => x = nilS ∧ h' = h) := by
  obtain ⟨c, hc1, hc2⟩ := res15
  refine ACalls.weak (ACalls.enter Tryz.func15 hc1 Tryz.ntmps15 hc2 (Nat.le_of_ble_eq_true rfl) rfl ?_)
  repeat' (first
    | refine S.nilK ?_
    | (refine S.op rfl ?_; first
      | refine R.callQ (by decide) rfl (ok_nil _) ?_
      | refine R.mv rfl ?_
      | refine R.fieldAddr rfl ?_
      | refine R.fieldAddrR rfl ?_
      | refine R.nilCheck rfl ?_
      | refine R.nilCheckR rfl ?_
      | refine R.loadR rfl rfl ?_
      | refine R.load (by decide) rfl (by (repeat' (first | assumption | exact AHeap.set_same _ _ _ | refine AHeap.get_fresh (by assumption) ?_ | (refine (AHeap.set_other _ _ ?_).trans ?_; first | exact (AHeap.fresh_set (by assumption)).1 | exact Ne.symm (AHeap.fresh_set (by assumption)).1 | exact AHeap.ne_of (by assumption) (by assumption) | exact Ne.symm (AHeap.ne_of (by assumption) (by assumption)) | exact (AHeap.fresh_set (AHeap.fresh_set (by assumption)).2).1 | exact Ne.symm (AHeap.fresh_set (AHeap.fresh_set (by assumption)).2).1 | exact AHeap.ne_of (AHeap.fresh_set (by assumption)).2 (by assumption) | exact Ne.symm (AHeap.ne_of (AHeap.fresh_set (by assumption)).2 (by assumption)) | assumption | skip) | exact (AHeap.fresh_set (by assumption)).1 | exact Ne.symm (AHeap.fresh_set (by assumption)).1 | exact AHeap.ne_of (by assumption) (by assumption) | exact Ne.symm (AHeap.ne_of (by assumption) (by assumption)) | exact (AHeap.fresh_set (AHeap.fresh_set (by assumption)).2).1 | exact Ne.symm (AHeap.fresh_set (AHeap.fresh_set (by assumption)).2).1 | exact AHeap.ne_of (AHeap.fresh_set (by assumption)).2 (by assumption) | exact Ne.symm (AHeap.ne_of (AHeap.fresh_set (by assumption)).2 (by assumption)))); first | done | fail) rfl ?_
      | refine S.addI rfl rfl (by omega) ?_
      | refine S.subI rfl rfl (by omega) ?_
      | refine S.addU rfl rfl ?_
      | refine S.subU rfl rfl ?_
      | refine S.addUc rfl (by decide) ?_
      | refine S.subUc rfl (by decide) ?_
      | refine S.arith rfl rfl rfl ?_
      | refine R.pickT rfl rfl ?_
      | refine R.pickF rfl rfl ?_
      | refine R.len rfl ?_
      | refine R.lenA rfl ?_
      | refine R.lenStr rfl ?_
      | refine S.convIU rfl (by omega) ?_
      | refine S.convUI rfl (by omega) ?_
      | refine R.convInt rfl ?_
      | refine R.not rfl ?_
      | refine R.eqPtrNil rfl rfl ?_
      | refine R.extract rfl rfl ?_
      | refine R.field rfl rfl ?_
      | refine R.alloc rfl (fun b hb => ?_)
      | refine R.box rfl rfl rfl (fun b hb => ?_)
      | refine R.build rfl rfl ?_
      | refine R.buildSl rfl rfl rfl (by decide) ?_
      | refine R.toStr rfl ?_
      | refine R.convStr rfl ?_
      | refine R.minmax rfl ?_
      | refine R.makeFunc rfl rfl ?_
      | (first | refine S.lss rfl rfl (fun hlt => ?_) (fun hlt => by exfalso; omega) | refine S.lss rfl rfl (fun hlt => by exfalso; omega) (fun hlt => ?_) | refine S.lss rfl rfl (fun hlt => ?_) (fun hlt => ?_))
      | (first | refine S.gtr rfl rfl (fun hlt => ?_) (fun hlt => by exfalso; omega) | refine S.gtr rfl rfl (fun hlt => by exfalso; omega) (fun hlt => ?_) | refine S.gtr rfl rfl (fun hlt => ?_) (fun hlt => ?_))
      | (first | refine S.leq rfl rfl (fun hlt => ?_) (fun hlt => by exfalso; omega) | refine S.leq rfl rfl (fun hlt => by exfalso; omega) (fun hlt => ?_) | refine S.leq rfl rfl (fun hlt => ?_) (fun hlt => ?_))
      | (first | refine S.geq rfl rfl (fun hlt => ?_) (fun hlt => by exfalso; omega) | refine S.geq rfl rfl (fun hlt => by exfalso; omega) (fun hlt => ?_) | refine S.geq rfl rfl (fun hlt => ?_) (fun hlt => ?_))
      | (first | refine S.eqInt rfl rfl (fun hlt => ?_) (fun hlt => by exfalso; omega) | refine S.eqInt rfl rfl (fun hlt => by exfalso; omega) (fun hlt => ?_) | refine S.eqInt rfl rfl (fun hlt => ?_) (fun hlt => ?_)))
    | (refine S.op0 rfl ?_; first | refine S.storeS rfl rfl rfl (by rfl) rfl (by first | decide | exact Nat.le_refl _ | exact Nat.le_of_ble_eq_true rfl) ?_ | refine S.store rfl rfl (by (repeat' (first | assumption | exact AHeap.set_same _ _ _ | refine AHeap.get_fresh (by assumption) ?_ | (refine (AHeap.set_other _ _ ?_).trans ?_; first | exact (AHeap.fresh_set (by assumption)).1 | exact Ne.symm (AHeap.fresh_set (by assumption)).1 | exact AHeap.ne_of (by assumption) (by assumption) | exact Ne.symm (AHeap.ne_of (by assumption) (by assumption)) | exact (AHeap.fresh_set (AHeap.fresh_set (by assumption)).2).1 | exact Ne.symm (AHeap.fresh_set (AHeap.fresh_set (by assumption)).2).1 | exact AHeap.ne_of (AHeap.fresh_set (by assumption)).2 (by assumption) | exact Ne.symm (AHeap.ne_of (AHeap.fresh_set (by assumption)).2 (by assumption)) | assumption | skip) | exact (AHeap.fresh_set (by assumption)).1 | exact Ne.symm (AHeap.fresh_set (by assumption)).1 | exact AHeap.ne_of (by assumption) (by assumption) | exact Ne.symm (AHeap.ne_of (by assumption) (by assumption)) | exact (AHeap.fresh_set (AHeap.fresh_set (by assumption)).2).1 | exact Ne.symm (AHeap.fresh_set (AHeap.fresh_set (by assumption)).2).1 | exact AHeap.ne_of (AHeap.fresh_set (by assumption)).2 (by assumption) | exact Ne.symm (AHeap.ne_of (AHeap.fresh_set (by assumption)).2 (by assumption)))); first | done | fail) rfl rfl rfl (by rfl) rfl ?_)
    | refine S.skip rfl ?_
    | refine S.skip0 rfl ?_
    | refine S.seq ?_
    | refine S.region ?_
    | refine S.regionT ?_
    | refine S.tstep ?_
    | refine S.talt ?_ ?_
    | exact S.tstop
    | refine S.tdone ?_
    | refine S.condT rfl ?_
    | refine S.condF rfl ?_
    | refine RRun.skip ?_
    | refine RRun.block ?_
    | refine RRun.inBlock ?_
    | refine RRun.exit rfl ?_)
  apply S.ret rr15
  case hx => repeat (first | exact ResAt.nil | apply ResAt.tmp rfl | apply ResAt.cellA rfl (by (repeat' (first | assumption | exact AHeap.set_same _ _ _ | refine AHeap.get_fresh (by assumption) ?_ | (refine (AHeap.set_other _ _ ?_).trans ?_; first | exact (AHeap.fresh_set (by assumption)).1 | exact Ne.symm (AHeap.fresh_set (by assumption)).1 | exact AHeap.ne_of (by assumption) (by assumption) | exact Ne.symm (AHeap.ne_of (by assumption) (by assumption)) | exact (AHeap.fresh_set (AHeap.fresh_set (by assumption)).2).1 | exact Ne.symm (AHeap.fresh_set (AHeap.fresh_set (by assumption)).2).1 | exact AHeap.ne_of (AHeap.fresh_set (by assumption)).2 (by assumption) | exact Ne.symm (AHeap.ne_of (AHeap.fresh_set (by assumption)).2 (by assumption)) | assumption | skip) | exact (AHeap.fresh_set (by assumption)).1 | exact Ne.symm (AHeap.fresh_set (by assumption)).1 | exact AHeap.ne_of (by assumption) (by assumption) | exact Ne.symm (AHeap.ne_of (by assumption) (by assumption)) | exact (AHeap.fresh_set (AHeap.fresh_set (by assumption)).2).1 | exact Ne.symm (AHeap.fresh_set (AHeap.fresh_set (by assumption)).2).1 | exact AHeap.ne_of (AHeap.fresh_set (by assumption)).2 (by assumption) | exact Ne.symm (AHeap.ne_of (AHeap.fresh_set (by assumption)).2 (by assumption)))); first | done | fail) (by rfl) | apply ResAt.cell1 rfl (by (repeat' (first | assumption | exact AHeap.set_same _ _ _ | refine AHeap.get_fresh (by assumption) ?_ | (refine (AHeap.set_other _ _ ?_).trans ?_; first | exact (AHeap.fresh_set (by assumption)).1 | exact Ne.symm (AHeap.fresh_set (by assumption)).1 | exact AHeap.ne_of (by assumption) (by assumption) | exact Ne.symm (AHeap.ne_of (by assumption) (by assumption)) | exact (AHeap.fresh_set (AHeap.fresh_set (by assumption)).2).1 | exact Ne.symm (AHeap.fresh_set (AHeap.fresh_set (by assumption)).2).1 | exact AHeap.ne_of (AHeap.fresh_set (by assumption)).2 (by assumption) | exact Ne.symm (AHeap.ne_of (AHeap.fresh_set (by assumption)).2 (by assumption)) | assumption | skip) | exact (AHeap.fresh_set (by assumption)).1 | exact Ne.symm (AHeap.fresh_set (by assumption)).1 | exact AHeap.ne_of (by assumption) (by assumption) | exact Ne.symm (AHeap.ne_of (by assumption) (by assumption)) | exact (AHeap.fresh_set (AHeap.fresh_set (by assumption)).2).1 | exact Ne.symm (AHeap.fresh_set (AHeap.fresh_set (by assumption)).2).1 | exact AHeap.ne_of (AHeap.fresh_set (by assumption)).2 (by assumption) | exact Ne.symm (AHeap.ne_of (AHeap.fresh_set (by assumption)).2 (by assumption)))); first | done | fail) (by rfl))
  exact ⟨_, _, .refl _, (by repeat (first | exact AHeap.le.refl _ | refine AHeap.le.set ?_ _ (by (repeat' (first | assumption | exact (AHeap.fresh_set (by assumption)).2 | exact (AHeap.fresh_set (AHeap.fresh_set (by assumption)).2).2 | exact (AHeap.fresh_set (AHeap.fresh_set (AHeap.fresh_set (by assumption)).2).2).2 | refine (AHeap.set_other _ _ ?_).trans ?_ | exact (AHeap.fresh_set (by assumption)).1 | exact Ne.symm (AHeap.fresh_set (by assumption)).1 | exact AHeap.ne_of (by assumption) (by assumption) | exact Ne.symm (AHeap.ne_of (by assumption) (by assumption)) | exact (AHeap.fresh_set (AHeap.fresh_set (by assumption)).2).1 | exact Ne.symm (AHeap.fresh_set (AHeap.fresh_set (by assumption)).2).1 | exact AHeap.ne_of (AHeap.fresh_set (by assumption)).2 (by assumption) | exact Ne.symm (AHeap.ne_of (AHeap.fresh_set (by assumption)).2 (by assumption)))); first | done | fail) | refine AHeap.le.both ?_ _ _)), rfl, rfl⟩

/-- plenum/plenumlaw09.RaftNone -/
def r3 : RCode :=
  (.seq (.region [
    ⟨(some 1), none, .act, .box (.tmp 0)⟩,
    ⟨(some 2), none, .act, .mv (.const (.bool false))⟩])
  (.seq (.seq (.region [
    ⟨(some 14), none, .act, .call 4 []⟩,
    ⟨(some 15), none, .act, .un .not (.tmp 14)⟩])
  (.cond (.tmp 15)
   (.seq (.region [
     ⟨(some 2), none, .act, .mv (.const (.bool false))⟩])
   .ret)
   .skip))
  (.seq (.seq (.region [
    ⟨(some 16), none, .act, .load true 19 (.tmp 1)⟩,
    ⟨(some 17), none, .act, .buildSl 19 [(.int .i64 0), (.int .u64 0), (.int .i64 0), (.int .u64 0), (.int .u64 0), (.int .u64 0), (.int .u64 0), (.int .u64 0), (.int .u64 0), (.int .u64 0), (.bool false), (.slice none 0 0), (.int .u64 0), (.int .u64 0), (.slice none 0 0), (.slice none 0 0), (.slice none 0 0), (.slice none 0 0), (.int .u64 0)] 1 [(0, (.tmp 16))]⟩,
    ⟨(some 18), none, .act, .call 5 [(.tmp 17)]⟩,
    ⟨(some 19), none, .act, .un .not (.tmp 18)⟩])
  (.cond (.tmp 19)
   (.seq (.region [
     ⟨(some 2), none, .act, .mv (.const (.bool true))⟩])
   .ret)
   .skip))
  (.seq (.region [
    ⟨(some 3), none, .act, .mv (.const (.pointer none))⟩])
  (.seq (.region [
    ⟨(some 20), none, .act, .mv (.tmp 3)⟩,
    ⟨(some 21), none, .act, .fieldAddr 1 (.tmp 1)⟩,
    ⟨(some 22), none, .act, .load false 1 (.tmp 21)⟩,
    ⟨(some 23), none, .act, .call 6 [(.tmp 20), (.tmp 22)]⟩])
  (.seq (.region [
    ⟨(some 24), none, .act, .mv (.tmp 3)⟩,
    ⟨(some 25), none, .act, .fieldAddr 2 (.tmp 1)⟩,
    ⟨(some 26), none, .act, .load true 14 (.tmp 25)⟩,
    ⟨(some 27), none, .act, .call 7 [(.tmp 24), (.tmp 26)]⟩])
  (.seq (.region [
    ⟨(some 29), none, .act, .mv (.tmp 3)⟩,
    ⟨(some 30), none, .act, .fieldAddr 16 (.tmp 1)⟩,
    ⟨(some 31), none, .act, .load false 1 (.tmp 30)⟩,
    ⟨(some 32), none, .act, .call 8 [(.tmp 29), (.tmp 31)]⟩,
    ⟨(some 28), none, .act, .mv (.tmp 32)⟩,
    ⟨(some 33), none, .act, .extract (.tmp 28) 0⟩,
    ⟨(some 34), none, .act, .extract (.tmp 28) 1⟩,
    ⟨(some 4), none, .act, .mv (.tmp 33)⟩,
    ⟨(some 5), none, .act, .mv (.tmp 34)⟩])
  (.seq (.region [
    ⟨(some 36), none, .act, .mv (.tmp 3)⟩,
    ⟨(some 37), none, .act, .fieldAddr 17 (.tmp 1)⟩,
    ⟨(some 38), none, .act, .load false 1 (.tmp 37)⟩,
    ⟨(some 39), none, .act, .call 9 [(.tmp 36), (.tmp 38)]⟩,
    ⟨(some 35), none, .act, .mv (.tmp 39)⟩,
    ⟨(some 40), none, .act, .extract (.tmp 35) 0⟩,
    ⟨(some 41), none, .act, .extract (.tmp 35) 1⟩,
    ⟨(some 6), none, .act, .mv (.tmp 40)⟩,
    ⟨(some 7), none, .act, .mv (.tmp 41)⟩])
  (.seq (.region [
    ⟨(some 43), none, .act, .mv (.tmp 3)⟩,
    ⟨(some 44), none, .act, .call 10 [(.tmp 43)]⟩,
    ⟨(some 42), none, .act, .mv (.tmp 44)⟩,
    ⟨(some 45), none, .act, .extract (.tmp 42) 0⟩,
    ⟨(some 46), none, .act, .extract (.tmp 42) 1⟩,
    ⟨(some 8), none, .act, .alloc [(.int .u64 0), (.int .u64 0), (.slice none 0 0), (.slice none 0 0)]⟩,
    ⟨none, none, .act, .store 4 (.tmp 8) (.tmp 45)⟩,
    ⟨(some 9), none, .act, .mv (.tmp 46)⟩])
  (.seq (.region [
    ⟨(some 48), none, .act, .mv (.tmp 3)⟩,
    ⟨(some 49), none, .act, .call 11 [(.tmp 48)]⟩,
    ⟨(some 47), none, .act, .mv (.tmp 49)⟩,
    ⟨(some 50), none, .act, .extract (.tmp 47) 0⟩,
    ⟨(some 51), none, .act, .extract (.tmp 47) 1⟩,
    ⟨(some 52), none, .act, .extract (.tmp 47) 2⟩,
    ⟨(some 53), none, .act, .extract (.tmp 47) 3⟩,
    ⟨(some 10), none, .act, .mv (.tmp 50)⟩,
    ⟨(some 11), none, .act, .mv (.tmp 51)⟩,
    ⟨(some 12), none, .act, .mv (.tmp 52)⟩,
    ⟨(some 13), none, .act, .mv (.tmp 53)⟩])
  (.seq (.region [
    ⟨(some 54), none, .act, .mv (.tmp 5)⟩,
    ⟨(some 55), none, .act, .eq false .int (.tmp 54) (.const (.int .i64 1))⟩,
    ⟨(some 56), none, .act, .mv (.tmp 55)⟩,
    ⟨(some 57), (some (56, true)), .act, .mv (.tmp 7)⟩,
    ⟨(some 58), (some (56, true)), .act, .eq false .int (.tmp 57) (.const (.int .i64 1))⟩,
    ⟨(some 59), none, .act, .pick (.tmp 56) (.tmp 58) (.const (.bool false))⟩,
    ⟨(some 60), none, .act, .mv (.tmp 59)⟩,
    ⟨(some 61), (some (60, true)), .act, .mv (.tmp 3)⟩,
    ⟨(some 62), (some (60, true)), .act, .fieldAddr 18 (.tmp 1)⟩,
    ⟨(some 63), (some (60, true)), .act, .load false 1 (.tmp 62)⟩,
    ⟨(some 64), (some (60, true)), .act, .call 12 [(.tmp 61), (.tmp 63), (.const (.slice none 0 0))]⟩,
    ⟨(some 65), (some (60, true)), .act, .eq false .int (.tmp 64) (.const (.int .i64 1))⟩,
    ⟨(some 66), none, .act, .pick (.tmp 60) (.tmp 65) (.const (.bool false))⟩,
    ⟨(some 67), none, .act, .mv (.tmp 66)⟩,
    ⟨(some 68), (some (67, true)), .act, .mv (.tmp 3)⟩,
    ⟨(some 69), (some (67, true)), .act, .call 13 [(.tmp 68)]⟩,
    ⟨(some 70), (some (67, true)), .act, .len (.tmp 69)⟩,
    ⟨(some 71), (some (67, true)), .act, .eq false .int (.tmp 70) (.const (.int .i64 0))⟩,
    ⟨(some 72), none, .act, .pick (.tmp 67) (.tmp 71) (.const (.bool false))⟩,
    ⟨(some 73), none, .act, .mv (.tmp 72)⟩,
    ⟨(some 74), (some (73, true)), .act, .mv (.tmp 3)⟩,
    ⟨(some 75), (some (73, true)), .act, .call 14 [(.tmp 74)]⟩,
    ⟨(some 76), (some (73, true)), .act, .len (.tmp 75)⟩,
    ⟨(some 77), (some (73, true)), .act, .eq false .int (.tmp 76) (.const (.int .i64 0))⟩,
    ⟨(some 78), none, .act, .pick (.tmp 73) (.tmp 77) (.const (.bool false))⟩,
    ⟨(some 79), none, .act, .mv (.tmp 78)⟩,
    ⟨(some 80), (some (79, true)), .act, .mv (.tmp 3)⟩,
    ⟨(some 81), (some (79, true)), .act, .call 15 [(.tmp 80), (.const (.int .i64 9))]⟩,
    ⟨(some 82), (some (79, true)), .act, .len (.tmp 81)⟩,
    ⟨(some 83), (some (79, true)), .act, .eq false .int (.tmp 82) (.const (.int .i64 0))⟩,
    ⟨(some 84), none, .act, .pick (.tmp 79) (.tmp 83) (.const (.bool false))⟩,
    ⟨(some 85), none, .act, .mv (.tmp 84)⟩,
    ⟨(some 86), (some (85, true)), .act, .mv (.tmp 9)⟩,
    ⟨(some 87), (some (85, true)), .act, .un .not (.tmp 86)⟩,
    ⟨(some 88), none, .act, .pick (.tmp 85) (.tmp 87) (.const (.bool false))⟩,
    ⟨(some 89), none, .act, .mv (.tmp 88)⟩,
    ⟨(some 90), (some (89, true)), .act, .mv (.tmp 10)⟩,
    ⟨(some 91), (some (89, true)), .act, .eq false .int (.tmp 90) (.const (.int .i64 0))⟩,
    ⟨(some 92), none, .act, .pick (.tmp 89) (.tmp 91) (.const (.bool false))⟩,
    ⟨(some 93), none, .act, .mv (.tmp 92)⟩,
    ⟨(some 94), (some (93, true)), .act, .mv (.tmp 11)⟩,
    ⟨(some 95), (some (93, true)), .act, .eq false .int (.tmp 94) (.const (.int .u64 0))⟩,
    ⟨(some 96), none, .act, .pick (.tmp 93) (.tmp 95) (.const (.bool false))⟩,
    ⟨(some 97), none, .act, .mv (.tmp 96)⟩,
    ⟨(some 98), (some (97, true)), .act, .mv (.tmp 12)⟩,
    ⟨(some 99), (some (97, true)), .act, .eq false .int (.tmp 98) (.const (.int .u64 0))⟩,
    ⟨(some 100), none, .act, .pick (.tmp 97) (.tmp 99) (.const (.bool false))⟩,
    ⟨(some 101), none, .act, .mv (.tmp 100)⟩,
    ⟨(some 102), (some (101, true)), .act, .mv (.tmp 13)⟩,
    ⟨(some 103), (some (101, true)), .act, .eq false .int (.tmp 102) (.const (.int .u64 0))⟩,
    ⟨(some 104), none, .act, .pick (.tmp 101) (.tmp 103) (.const (.bool false))⟩,
    ⟨(some 2), none, .act, .mv (.tmp 104)⟩])
  .ret)))))))))))
theorem res3 : ∃ c, Tryz.f3.body = some c ∧ resCode Tryz.prog 105 c = some r3 := ⟨_, rfl, by kernel_rfl⟩
theorem rr3 : resRes Tryz.prog Tryz.f3.results.toList = some [.tmp 2] := by kernel_rfl
/-- The walk: the law answers true. -/
theorem none_spec (y : Inp) (hl : y.m.ents.length ≤ 9223372036854775807) (hd : y.data.length ≤ 9223372036854775807) (hm : y.members.length ≤ 9223372036854775807) (h : AHeap) : ACalls Tryz.prog 3 [.ag y.cells] h (fun x h' => x = bl true ∧ h' = h) := by
  obtain ⟨c, hc1, hc2⟩ := res3
  refine ACalls.weak (ACalls.enter Tryz.func3 hc1 Tryz.ntmps3 hc2 (Nat.le_of_ble_eq_true rfl) rfl ?_)
  repeat' (first
    | refine S.nilK ?_
    | (refine S.op rfl ?_; first
      | refine R.callQ (by decide) rfl (awake_spec _) ?_
      | refine R.mv rfl ?_
      | refine R.fieldAddr rfl ?_
      | refine R.fieldAddrR rfl ?_
      | refine R.nilCheck rfl ?_
      | refine R.nilCheckR rfl ?_
      | refine R.loadR rfl rfl ?_
      | refine R.load (by decide) rfl (by (repeat' (first | assumption | exact AHeap.set_same _ _ _ | refine AHeap.get_fresh (by assumption) ?_ | (refine (AHeap.set_other _ _ ?_).trans ?_; first | exact (AHeap.fresh_set (by assumption)).1 | exact Ne.symm (AHeap.fresh_set (by assumption)).1 | exact AHeap.ne_of (by assumption) (by assumption) | exact Ne.symm (AHeap.ne_of (by assumption) (by assumption)) | exact (AHeap.fresh_set (AHeap.fresh_set (by assumption)).2).1 | exact Ne.symm (AHeap.fresh_set (AHeap.fresh_set (by assumption)).2).1 | exact AHeap.ne_of (AHeap.fresh_set (by assumption)).2 (by assumption) | exact Ne.symm (AHeap.ne_of (AHeap.fresh_set (by assumption)).2 (by assumption)) | assumption | skip) | exact (AHeap.fresh_set (by assumption)).1 | exact Ne.symm (AHeap.fresh_set (by assumption)).1 | exact AHeap.ne_of (by assumption) (by assumption) | exact Ne.symm (AHeap.ne_of (by assumption) (by assumption)) | exact (AHeap.fresh_set (AHeap.fresh_set (by assumption)).2).1 | exact Ne.symm (AHeap.fresh_set (AHeap.fresh_set (by assumption)).2).1 | exact AHeap.ne_of (AHeap.fresh_set (by assumption)).2 (by assumption) | exact Ne.symm (AHeap.ne_of (AHeap.fresh_set (by assumption)).2 (by assumption)))); first | done | fail) rfl ?_
      | refine S.addI rfl rfl (by omega) ?_
      | refine S.subI rfl rfl (by omega) ?_
      | refine S.addU rfl rfl ?_
      | refine S.subU rfl rfl ?_
      | refine S.addUc rfl (by decide) ?_
      | refine S.subUc rfl (by decide) ?_
      | refine S.arith rfl rfl rfl ?_
      | refine R.pickT rfl rfl ?_
      | refine R.pickF rfl rfl ?_
      | refine R.len rfl ?_
      | refine R.lenA rfl ?_
      | refine R.lenStr rfl ?_
      | refine S.convIU rfl (by omega) ?_
      | refine S.convUI rfl (by omega) ?_
      | refine R.convInt rfl ?_
      | refine R.not rfl ?_
      | refine R.eqPtrNil rfl rfl ?_
      | refine R.extract rfl rfl ?_
      | refine R.field rfl rfl ?_
      | refine R.alloc rfl (fun b hb => ?_)
      | refine R.box rfl rfl rfl (fun b hb => ?_)
      | refine R.build rfl rfl ?_
      | refine R.buildSl rfl rfl rfl (by decide) ?_
      | refine R.toStr rfl ?_
      | refine R.convStr rfl ?_
      | refine R.minmax rfl ?_
      | refine R.makeFunc rfl rfl ?_
      | (first | refine S.lss rfl rfl (fun hlt => ?_) (fun hlt => by exfalso; omega) | refine S.lss rfl rfl (fun hlt => by exfalso; omega) (fun hlt => ?_) | refine S.lss rfl rfl (fun hlt => ?_) (fun hlt => ?_))
      | (first | refine S.gtr rfl rfl (fun hlt => ?_) (fun hlt => by exfalso; omega) | refine S.gtr rfl rfl (fun hlt => by exfalso; omega) (fun hlt => ?_) | refine S.gtr rfl rfl (fun hlt => ?_) (fun hlt => ?_))
      | (first | refine S.leq rfl rfl (fun hlt => ?_) (fun hlt => by exfalso; omega) | refine S.leq rfl rfl (fun hlt => by exfalso; omega) (fun hlt => ?_) | refine S.leq rfl rfl (fun hlt => ?_) (fun hlt => ?_))
      | (first | refine S.geq rfl rfl (fun hlt => ?_) (fun hlt => by exfalso; omega) | refine S.geq rfl rfl (fun hlt => by exfalso; omega) (fun hlt => ?_) | refine S.geq rfl rfl (fun hlt => ?_) (fun hlt => ?_))
      | (first | refine S.eqInt rfl rfl (fun hlt => ?_) (fun hlt => by exfalso; omega) | refine S.eqInt rfl rfl (fun hlt => by exfalso; omega) (fun hlt => ?_) | refine S.eqInt rfl rfl (fun hlt => ?_) (fun hlt => ?_)))
    | (refine S.op0 rfl ?_; first | refine S.storeS rfl rfl rfl (by rfl) rfl (by first | decide | exact Nat.le_refl _ | exact Nat.le_of_ble_eq_true rfl) ?_ | refine S.store rfl rfl (by (repeat' (first | assumption | exact AHeap.set_same _ _ _ | refine AHeap.get_fresh (by assumption) ?_ | (refine (AHeap.set_other _ _ ?_).trans ?_; first | exact (AHeap.fresh_set (by assumption)).1 | exact Ne.symm (AHeap.fresh_set (by assumption)).1 | exact AHeap.ne_of (by assumption) (by assumption) | exact Ne.symm (AHeap.ne_of (by assumption) (by assumption)) | exact (AHeap.fresh_set (AHeap.fresh_set (by assumption)).2).1 | exact Ne.symm (AHeap.fresh_set (AHeap.fresh_set (by assumption)).2).1 | exact AHeap.ne_of (AHeap.fresh_set (by assumption)).2 (by assumption) | exact Ne.symm (AHeap.ne_of (AHeap.fresh_set (by assumption)).2 (by assumption)) | assumption | skip) | exact (AHeap.fresh_set (by assumption)).1 | exact Ne.symm (AHeap.fresh_set (by assumption)).1 | exact AHeap.ne_of (by assumption) (by assumption) | exact Ne.symm (AHeap.ne_of (by assumption) (by assumption)) | exact (AHeap.fresh_set (AHeap.fresh_set (by assumption)).2).1 | exact Ne.symm (AHeap.fresh_set (AHeap.fresh_set (by assumption)).2).1 | exact AHeap.ne_of (AHeap.fresh_set (by assumption)).2 (by assumption) | exact Ne.symm (AHeap.ne_of (AHeap.fresh_set (by assumption)).2 (by assumption)))); first | done | fail) rfl rfl rfl (by rfl) rfl ?_)
    | refine S.skip rfl ?_
    | refine S.skip0 rfl ?_
    | refine S.seq ?_
    | refine S.region ?_
    | refine S.regionT ?_
    | refine S.tstep ?_
    | refine S.talt ?_ ?_
    | exact S.tstop
    | refine S.tdone ?_
    | refine S.condT rfl ?_
    | refine S.condF rfl ?_
    | refine RRun.skip ?_
    | refine RRun.block ?_
    | refine RRun.inBlock ?_
    | refine RRun.exit rfl ?_)
  refine S.op rfl (R.call rfl (show avs _ _ = some [.sl 19 [y.cells] .full] from rfl) (ACalls.mono (small5_spec y hl hd hm _) ?_))
  rintro _ _ ⟨b, rfl, rfl⟩
  cases b with
  | false =>
    repeat' (first
      | refine S.nilK ?_
      | (refine S.op rfl ?_; first
        | refine R.mv rfl ?_
        | refine R.fieldAddr rfl ?_
        | refine R.fieldAddrR rfl ?_
        | refine R.nilCheck rfl ?_
        | refine R.nilCheckR rfl ?_
        | refine R.loadR rfl rfl ?_
        | refine R.load (by decide) rfl (by (repeat' (first | assumption | exact AHeap.set_same _ _ _ | refine AHeap.get_fresh (by assumption) ?_ | (refine (AHeap.set_other _ _ ?_).trans ?_; first | exact (AHeap.fresh_set (by assumption)).1 | exact Ne.symm (AHeap.fresh_set (by assumption)).1 | exact AHeap.ne_of (by assumption) (by assumption) | exact Ne.symm (AHeap.ne_of (by assumption) (by assumption)) | exact (AHeap.fresh_set (AHeap.fresh_set (by assumption)).2).1 | exact Ne.symm (AHeap.fresh_set (AHeap.fresh_set (by assumption)).2).1 | exact AHeap.ne_of (AHeap.fresh_set (by assumption)).2 (by assumption) | exact Ne.symm (AHeap.ne_of (AHeap.fresh_set (by assumption)).2 (by assumption)) | assumption | skip) | exact (AHeap.fresh_set (by assumption)).1 | exact Ne.symm (AHeap.fresh_set (by assumption)).1 | exact AHeap.ne_of (by assumption) (by assumption) | exact Ne.symm (AHeap.ne_of (by assumption) (by assumption)) | exact (AHeap.fresh_set (AHeap.fresh_set (by assumption)).2).1 | exact Ne.symm (AHeap.fresh_set (AHeap.fresh_set (by assumption)).2).1 | exact AHeap.ne_of (AHeap.fresh_set (by assumption)).2 (by assumption) | exact Ne.symm (AHeap.ne_of (AHeap.fresh_set (by assumption)).2 (by assumption)))); first | done | fail) rfl ?_
        | refine S.addI rfl rfl (by omega) ?_
        | refine S.subI rfl rfl (by omega) ?_
        | refine S.addU rfl rfl ?_
        | refine S.subU rfl rfl ?_
        | refine S.addUc rfl (by decide) ?_
        | refine S.subUc rfl (by decide) ?_
        | refine S.arith rfl rfl rfl ?_
        | refine R.pickT rfl rfl ?_
        | refine R.pickF rfl rfl ?_
        | refine R.len rfl ?_
        | refine R.lenA rfl ?_
        | refine R.lenStr rfl ?_
        | refine S.convIU rfl (by omega) ?_
        | refine S.convUI rfl (by omega) ?_
        | refine R.convInt rfl ?_
        | refine R.not rfl ?_
        | refine R.eqPtrNil rfl rfl ?_
        | refine R.extract rfl rfl ?_
        | refine R.field rfl rfl ?_
        | refine R.alloc rfl (fun b hb => ?_)
        | refine R.box rfl rfl rfl (fun b hb => ?_)
        | refine R.build rfl rfl ?_
        | refine R.buildSl rfl rfl rfl (by decide) ?_
        | refine R.toStr rfl ?_
        | refine R.convStr rfl ?_
        | refine R.minmax rfl ?_
        | refine R.makeFunc rfl rfl ?_
        | (first | refine S.lss rfl rfl (fun hlt => ?_) (fun hlt => by exfalso; omega) | refine S.lss rfl rfl (fun hlt => by exfalso; omega) (fun hlt => ?_) | refine S.lss rfl rfl (fun hlt => ?_) (fun hlt => ?_))
        | (first | refine S.gtr rfl rfl (fun hlt => ?_) (fun hlt => by exfalso; omega) | refine S.gtr rfl rfl (fun hlt => by exfalso; omega) (fun hlt => ?_) | refine S.gtr rfl rfl (fun hlt => ?_) (fun hlt => ?_))
        | (first | refine S.leq rfl rfl (fun hlt => ?_) (fun hlt => by exfalso; omega) | refine S.leq rfl rfl (fun hlt => by exfalso; omega) (fun hlt => ?_) | refine S.leq rfl rfl (fun hlt => ?_) (fun hlt => ?_))
        | (first | refine S.geq rfl rfl (fun hlt => ?_) (fun hlt => by exfalso; omega) | refine S.geq rfl rfl (fun hlt => by exfalso; omega) (fun hlt => ?_) | refine S.geq rfl rfl (fun hlt => ?_) (fun hlt => ?_))
        | (first | refine S.eqInt rfl rfl (fun hlt => ?_) (fun hlt => by exfalso; omega) | refine S.eqInt rfl rfl (fun hlt => by exfalso; omega) (fun hlt => ?_) | refine S.eqInt rfl rfl (fun hlt => ?_) (fun hlt => ?_)))
      | (refine S.op0 rfl ?_; first | refine S.storeS rfl rfl rfl (by rfl) rfl (by first | decide | exact Nat.le_refl _ | exact Nat.le_of_ble_eq_true rfl) ?_ | refine S.store rfl rfl (by (repeat' (first | assumption | exact AHeap.set_same _ _ _ | refine AHeap.get_fresh (by assumption) ?_ | (refine (AHeap.set_other _ _ ?_).trans ?_; first | exact (AHeap.fresh_set (by assumption)).1 | exact Ne.symm (AHeap.fresh_set (by assumption)).1 | exact AHeap.ne_of (by assumption) (by assumption) | exact Ne.symm (AHeap.ne_of (by assumption) (by assumption)) | exact (AHeap.fresh_set (AHeap.fresh_set (by assumption)).2).1 | exact Ne.symm (AHeap.fresh_set (AHeap.fresh_set (by assumption)).2).1 | exact AHeap.ne_of (AHeap.fresh_set (by assumption)).2 (by assumption) | exact Ne.symm (AHeap.ne_of (AHeap.fresh_set (by assumption)).2 (by assumption)) | assumption | skip) | exact (AHeap.fresh_set (by assumption)).1 | exact Ne.symm (AHeap.fresh_set (by assumption)).1 | exact AHeap.ne_of (by assumption) (by assumption) | exact Ne.symm (AHeap.ne_of (by assumption) (by assumption)) | exact (AHeap.fresh_set (AHeap.fresh_set (by assumption)).2).1 | exact Ne.symm (AHeap.fresh_set (AHeap.fresh_set (by assumption)).2).1 | exact AHeap.ne_of (AHeap.fresh_set (by assumption)).2 (by assumption) | exact Ne.symm (AHeap.ne_of (AHeap.fresh_set (by assumption)).2 (by assumption)))); first | done | fail) rfl rfl rfl (by rfl) rfl ?_)
      | refine S.skip rfl ?_
      | refine S.skip0 rfl ?_
      | refine S.seq ?_
      | refine S.region ?_
      | refine S.regionT ?_
      | refine S.tstep ?_
      | refine S.talt ?_ ?_
      | exact S.tstop
      | refine S.tdone ?_
      | refine S.condT rfl ?_
      | refine S.condF rfl ?_
      | refine RRun.skip ?_
      | refine RRun.block ?_
      | refine RRun.inBlock ?_
      | refine RRun.exit rfl ?_)
    apply S.ret rr3
    case hx => repeat (first | exact ResAt.nil | apply ResAt.tmp rfl | apply ResAt.cellA rfl (by (repeat' (first | assumption | exact AHeap.set_same _ _ _ | refine AHeap.get_fresh (by assumption) ?_ | (refine (AHeap.set_other _ _ ?_).trans ?_; first | exact (AHeap.fresh_set (by assumption)).1 | exact Ne.symm (AHeap.fresh_set (by assumption)).1 | exact AHeap.ne_of (by assumption) (by assumption) | exact Ne.symm (AHeap.ne_of (by assumption) (by assumption)) | exact (AHeap.fresh_set (AHeap.fresh_set (by assumption)).2).1 | exact Ne.symm (AHeap.fresh_set (AHeap.fresh_set (by assumption)).2).1 | exact AHeap.ne_of (AHeap.fresh_set (by assumption)).2 (by assumption) | exact Ne.symm (AHeap.ne_of (AHeap.fresh_set (by assumption)).2 (by assumption)) | assumption | skip) | exact (AHeap.fresh_set (by assumption)).1 | exact Ne.symm (AHeap.fresh_set (by assumption)).1 | exact AHeap.ne_of (by assumption) (by assumption) | exact Ne.symm (AHeap.ne_of (by assumption) (by assumption)) | exact (AHeap.fresh_set (AHeap.fresh_set (by assumption)).2).1 | exact Ne.symm (AHeap.fresh_set (AHeap.fresh_set (by assumption)).2).1 | exact AHeap.ne_of (AHeap.fresh_set (by assumption)).2 (by assumption) | exact Ne.symm (AHeap.ne_of (AHeap.fresh_set (by assumption)).2 (by assumption)))); first | done | fail) (by rfl) | apply ResAt.cell1 rfl (by (repeat' (first | assumption | exact AHeap.set_same _ _ _ | refine AHeap.get_fresh (by assumption) ?_ | (refine (AHeap.set_other _ _ ?_).trans ?_; first | exact (AHeap.fresh_set (by assumption)).1 | exact Ne.symm (AHeap.fresh_set (by assumption)).1 | exact AHeap.ne_of (by assumption) (by assumption) | exact Ne.symm (AHeap.ne_of (by assumption) (by assumption)) | exact (AHeap.fresh_set (AHeap.fresh_set (by assumption)).2).1 | exact Ne.symm (AHeap.fresh_set (AHeap.fresh_set (by assumption)).2).1 | exact AHeap.ne_of (AHeap.fresh_set (by assumption)).2 (by assumption) | exact Ne.symm (AHeap.ne_of (AHeap.fresh_set (by assumption)).2 (by assumption)) | assumption | skip) | exact (AHeap.fresh_set (by assumption)).1 | exact Ne.symm (AHeap.fresh_set (by assumption)).1 | exact AHeap.ne_of (by assumption) (by assumption) | exact Ne.symm (AHeap.ne_of (by assumption) (by assumption)) | exact (AHeap.fresh_set (AHeap.fresh_set (by assumption)).2).1 | exact Ne.symm (AHeap.fresh_set (AHeap.fresh_set (by assumption)).2).1 | exact AHeap.ne_of (AHeap.fresh_set (by assumption)).2 (by assumption) | exact Ne.symm (AHeap.ne_of (AHeap.fresh_set (by assumption)).2 (by assumption)))); first | done | fail) (by rfl))
    exact ⟨_, _, .refl _, (by repeat (first | exact AHeap.le.refl _ | refine AHeap.le.set ?_ _ (by (repeat' (first | assumption | exact (AHeap.fresh_set (by assumption)).2 | exact (AHeap.fresh_set (AHeap.fresh_set (by assumption)).2).2 | exact (AHeap.fresh_set (AHeap.fresh_set (AHeap.fresh_set (by assumption)).2).2).2 | refine (AHeap.set_other _ _ ?_).trans ?_ | exact (AHeap.fresh_set (by assumption)).1 | exact Ne.symm (AHeap.fresh_set (by assumption)).1 | exact AHeap.ne_of (by assumption) (by assumption) | exact Ne.symm (AHeap.ne_of (by assumption) (by assumption)) | exact (AHeap.fresh_set (AHeap.fresh_set (by assumption)).2).1 | exact Ne.symm (AHeap.fresh_set (AHeap.fresh_set (by assumption)).2).1 | exact AHeap.ne_of (AHeap.fresh_set (by assumption)).2 (by assumption) | exact Ne.symm (AHeap.ne_of (AHeap.fresh_set (by assumption)).2 (by assumption)))); first | done | fail) | refine AHeap.le.both ?_ _ _)), rfl, rfl⟩
  | true =>
    repeat' (first
      | refine S.nilK ?_
      | (refine S.op rfl ?_; first
        | refine R.callQ (by decide) rfl (nil6 y.draw _) ?_
        | refine R.callQ (by decide) rfl (nil7 y.m _) ?_
        | refine R.callQ (by decide) rfl (nil8 y.data _) ?_
        | refine R.callQ (by decide) rfl (nil9 y.members _) ?_
        | refine R.callQ (by decide) rfl (nil10 _) ?_
        | refine R.callQ (by decide) rfl (nil11 _) ?_
        | refine R.callQ (by decide) rfl (nil12 y.i _) ?_
        | refine R.callQ (by decide) rfl (nil13 _) ?_
        | refine R.callQ (by decide) rfl (nil14 _) ?_
        | refine R.callQ (by decide) rfl (nil15 _) ?_
        | refine R.mv rfl ?_
        | refine R.fieldAddr rfl ?_
        | refine R.fieldAddrR rfl ?_
        | refine R.nilCheck rfl ?_
        | refine R.nilCheckR rfl ?_
        | refine R.loadR rfl rfl ?_
        | refine R.load (by decide) rfl (by (repeat' (first | assumption | exact AHeap.set_same _ _ _ | refine AHeap.get_fresh (by assumption) ?_ | (refine (AHeap.set_other _ _ ?_).trans ?_; first | exact (AHeap.fresh_set (by assumption)).1 | exact Ne.symm (AHeap.fresh_set (by assumption)).1 | exact AHeap.ne_of (by assumption) (by assumption) | exact Ne.symm (AHeap.ne_of (by assumption) (by assumption)) | exact (AHeap.fresh_set (AHeap.fresh_set (by assumption)).2).1 | exact Ne.symm (AHeap.fresh_set (AHeap.fresh_set (by assumption)).2).1 | exact AHeap.ne_of (AHeap.fresh_set (by assumption)).2 (by assumption) | exact Ne.symm (AHeap.ne_of (AHeap.fresh_set (by assumption)).2 (by assumption)) | assumption | skip) | exact (AHeap.fresh_set (by assumption)).1 | exact Ne.symm (AHeap.fresh_set (by assumption)).1 | exact AHeap.ne_of (by assumption) (by assumption) | exact Ne.symm (AHeap.ne_of (by assumption) (by assumption)) | exact (AHeap.fresh_set (AHeap.fresh_set (by assumption)).2).1 | exact Ne.symm (AHeap.fresh_set (AHeap.fresh_set (by assumption)).2).1 | exact AHeap.ne_of (AHeap.fresh_set (by assumption)).2 (by assumption) | exact Ne.symm (AHeap.ne_of (AHeap.fresh_set (by assumption)).2 (by assumption)))); first | done | fail) rfl ?_
        | refine S.addI rfl rfl (by omega) ?_
        | refine S.subI rfl rfl (by omega) ?_
        | refine S.addU rfl rfl ?_
        | refine S.subU rfl rfl ?_
        | refine S.addUc rfl (by decide) ?_
        | refine S.subUc rfl (by decide) ?_
        | refine S.arith rfl rfl rfl ?_
        | refine R.pickT rfl rfl ?_
        | refine R.pickF rfl rfl ?_
        | refine R.len rfl ?_
        | refine R.lenA rfl ?_
        | refine R.lenStr rfl ?_
        | refine S.convIU rfl (by omega) ?_
        | refine S.convUI rfl (by omega) ?_
        | refine R.convInt rfl ?_
        | refine R.not rfl ?_
        | refine R.eqPtrNil rfl rfl ?_
        | refine R.extract rfl rfl ?_
        | refine R.field rfl rfl ?_
        | refine R.alloc rfl (fun b hb => ?_)
        | refine R.box rfl rfl rfl (fun b hb => ?_)
        | refine R.build rfl rfl ?_
        | refine R.buildSl rfl rfl rfl (by decide) ?_
        | refine R.toStr rfl ?_
        | refine R.convStr rfl ?_
        | refine R.minmax rfl ?_
        | refine R.makeFunc rfl rfl ?_
        | (first | refine S.lss rfl rfl (fun hlt => ?_) (fun hlt => by exfalso; omega) | refine S.lss rfl rfl (fun hlt => by exfalso; omega) (fun hlt => ?_) | refine S.lss rfl rfl (fun hlt => ?_) (fun hlt => ?_))
        | (first | refine S.gtr rfl rfl (fun hlt => ?_) (fun hlt => by exfalso; omega) | refine S.gtr rfl rfl (fun hlt => by exfalso; omega) (fun hlt => ?_) | refine S.gtr rfl rfl (fun hlt => ?_) (fun hlt => ?_))
        | (first | refine S.leq rfl rfl (fun hlt => ?_) (fun hlt => by exfalso; omega) | refine S.leq rfl rfl (fun hlt => by exfalso; omega) (fun hlt => ?_) | refine S.leq rfl rfl (fun hlt => ?_) (fun hlt => ?_))
        | (first | refine S.geq rfl rfl (fun hlt => ?_) (fun hlt => by exfalso; omega) | refine S.geq rfl rfl (fun hlt => by exfalso; omega) (fun hlt => ?_) | refine S.geq rfl rfl (fun hlt => ?_) (fun hlt => ?_))
        | (first | refine S.eqInt rfl rfl (fun hlt => ?_) (fun hlt => by exfalso; omega) | refine S.eqInt rfl rfl (fun hlt => by exfalso; omega) (fun hlt => ?_) | refine S.eqInt rfl rfl (fun hlt => ?_) (fun hlt => ?_)))
      | (refine S.op0 rfl ?_; first | refine S.storeS rfl rfl rfl (by rfl) rfl (by first | decide | exact Nat.le_refl _ | exact Nat.le_of_ble_eq_true rfl) ?_ | refine S.store rfl rfl (by (repeat' (first | assumption | exact AHeap.set_same _ _ _ | refine AHeap.get_fresh (by assumption) ?_ | (refine (AHeap.set_other _ _ ?_).trans ?_; first | exact (AHeap.fresh_set (by assumption)).1 | exact Ne.symm (AHeap.fresh_set (by assumption)).1 | exact AHeap.ne_of (by assumption) (by assumption) | exact Ne.symm (AHeap.ne_of (by assumption) (by assumption)) | exact (AHeap.fresh_set (AHeap.fresh_set (by assumption)).2).1 | exact Ne.symm (AHeap.fresh_set (AHeap.fresh_set (by assumption)).2).1 | exact AHeap.ne_of (AHeap.fresh_set (by assumption)).2 (by assumption) | exact Ne.symm (AHeap.ne_of (AHeap.fresh_set (by assumption)).2 (by assumption)) | assumption | skip) | exact (AHeap.fresh_set (by assumption)).1 | exact Ne.symm (AHeap.fresh_set (by assumption)).1 | exact AHeap.ne_of (by assumption) (by assumption) | exact Ne.symm (AHeap.ne_of (by assumption) (by assumption)) | exact (AHeap.fresh_set (AHeap.fresh_set (by assumption)).2).1 | exact Ne.symm (AHeap.fresh_set (AHeap.fresh_set (by assumption)).2).1 | exact AHeap.ne_of (AHeap.fresh_set (by assumption)).2 (by assumption) | exact Ne.symm (AHeap.ne_of (AHeap.fresh_set (by assumption)).2 (by assumption)))); first | done | fail) rfl rfl rfl (by rfl) rfl ?_)
      | refine S.skip rfl ?_
      | refine S.skip0 rfl ?_
      | refine S.seq ?_
      | refine S.region ?_
      | refine S.regionT ?_
      | refine S.tstep ?_
      | refine S.talt ?_ ?_
      | exact S.tstop
      | refine S.tdone ?_
      | refine S.condT rfl ?_
      | refine S.condF rfl ?_
      | refine RRun.skip ?_
      | refine RRun.block ?_
      | refine RRun.inBlock ?_
      | refine RRun.exit rfl ?_)
    apply S.ret rr3
    case hx => repeat (first | exact ResAt.nil | apply ResAt.tmp rfl | apply ResAt.cellA rfl (by (repeat' (first | assumption | exact AHeap.set_same _ _ _ | refine AHeap.get_fresh (by assumption) ?_ | (refine (AHeap.set_other _ _ ?_).trans ?_; first | exact (AHeap.fresh_set (by assumption)).1 | exact Ne.symm (AHeap.fresh_set (by assumption)).1 | exact AHeap.ne_of (by assumption) (by assumption) | exact Ne.symm (AHeap.ne_of (by assumption) (by assumption)) | exact (AHeap.fresh_set (AHeap.fresh_set (by assumption)).2).1 | exact Ne.symm (AHeap.fresh_set (AHeap.fresh_set (by assumption)).2).1 | exact AHeap.ne_of (AHeap.fresh_set (by assumption)).2 (by assumption) | exact Ne.symm (AHeap.ne_of (AHeap.fresh_set (by assumption)).2 (by assumption)) | assumption | skip) | exact (AHeap.fresh_set (by assumption)).1 | exact Ne.symm (AHeap.fresh_set (by assumption)).1 | exact AHeap.ne_of (by assumption) (by assumption) | exact Ne.symm (AHeap.ne_of (by assumption) (by assumption)) | exact (AHeap.fresh_set (AHeap.fresh_set (by assumption)).2).1 | exact Ne.symm (AHeap.fresh_set (AHeap.fresh_set (by assumption)).2).1 | exact AHeap.ne_of (AHeap.fresh_set (by assumption)).2 (by assumption) | exact Ne.symm (AHeap.ne_of (AHeap.fresh_set (by assumption)).2 (by assumption)))); first | done | fail) (by rfl) | apply ResAt.cell1 rfl (by (repeat' (first | assumption | exact AHeap.set_same _ _ _ | refine AHeap.get_fresh (by assumption) ?_ | (refine (AHeap.set_other _ _ ?_).trans ?_; first | exact (AHeap.fresh_set (by assumption)).1 | exact Ne.symm (AHeap.fresh_set (by assumption)).1 | exact AHeap.ne_of (by assumption) (by assumption) | exact Ne.symm (AHeap.ne_of (by assumption) (by assumption)) | exact (AHeap.fresh_set (AHeap.fresh_set (by assumption)).2).1 | exact Ne.symm (AHeap.fresh_set (AHeap.fresh_set (by assumption)).2).1 | exact AHeap.ne_of (AHeap.fresh_set (by assumption)).2 (by assumption) | exact Ne.symm (AHeap.ne_of (AHeap.fresh_set (by assumption)).2 (by assumption)) | assumption | skip) | exact (AHeap.fresh_set (by assumption)).1 | exact Ne.symm (AHeap.fresh_set (by assumption)).1 | exact AHeap.ne_of (by assumption) (by assumption) | exact Ne.symm (AHeap.ne_of (by assumption) (by assumption)) | exact (AHeap.fresh_set (AHeap.fresh_set (by assumption)).2).1 | exact Ne.symm (AHeap.fresh_set (AHeap.fresh_set (by assumption)).2).1 | exact AHeap.ne_of (AHeap.fresh_set (by assumption)).2 (by assumption) | exact Ne.symm (AHeap.ne_of (AHeap.fresh_set (by assumption)).2 (by assumption)))); first | done | fail) (by rfl))
    exact ⟨_, _, .refl _, (by repeat (first | exact AHeap.le.refl _ | refine AHeap.le.set ?_ _ (by (repeat' (first | assumption | exact (AHeap.fresh_set (by assumption)).2 | exact (AHeap.fresh_set (AHeap.fresh_set (by assumption)).2).2 | exact (AHeap.fresh_set (AHeap.fresh_set (AHeap.fresh_set (by assumption)).2).2).2 | refine (AHeap.set_other _ _ ?_).trans ?_ | exact (AHeap.fresh_set (by assumption)).1 | exact Ne.symm (AHeap.fresh_set (by assumption)).1 | exact AHeap.ne_of (by assumption) (by assumption) | exact Ne.symm (AHeap.ne_of (by assumption) (by assumption)) | exact (AHeap.fresh_set (AHeap.fresh_set (by assumption)).2).1 | exact Ne.symm (AHeap.fresh_set (AHeap.fresh_set (by assumption)).2).1 | exact AHeap.ne_of (AHeap.fresh_set (by assumption)).2 (by assumption) | exact Ne.symm (AHeap.ne_of (AHeap.fresh_set (by assumption)).2 (by assumption)))); first | done | fail) | refine AHeap.le.both ?_ _ _)), rfl, rfl⟩

end Go.Proofs.YtcghjnkepooofaaGreat
