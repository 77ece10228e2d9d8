import Derived.Test.YtcjcmegkfplnkaaL1
set_option linter.unusedVariables false
set_option linter.unusedSimpArgs false
namespace Go.Proofs.Ytcjcmegkfplnkaa
open Go.Av

/-! ### Numbers (layer 1) -/

def okN (n : Int) : AV := .tu [i64 (if Fits n then n else 0), bl (decide (Fits n))]

/-- plenum/num.kept -/
def r36 : RCode :=
  (.seq (.region [
    ⟨(some 4), none, .act, .mv (.const (.int .i64 0))⟩,
    ⟨(some 5), none, .act, .mv (.const (.bool false))⟩])
  (.seq (.seq (.region [
    ⟨(some 6), none, .act, .mv (.tmp 1)⟩,
    ⟨(some 7), none, .act, .un .not (.tmp 6)⟩])
  (.cond (.tmp 7)
   (.seq (.region [
     ⟨(some 4), none, .act, .mv (.const (.int .i64 0))⟩,
     ⟨(some 5), none, .act, .mv (.const (.bool false))⟩])
   .ret)
   .skip))
  (.seq (.region [
    ⟨(some 8), none, .act, .mv (.tmp 0)⟩,
    ⟨(some 4), none, .act, .mv (.tmp 8)⟩,
    ⟨(some 5), none, .act, .mv (.const (.bool true))⟩])
  .ret)))
theorem res36 : ∃ c, Try.f36.body = some c ∧ resCode Try.prog 9 c = some r36 := ⟨_, rfl, by kernel_rfl⟩
theorem rr36 : resRes Try.prog Try.f36.results.toList = some [.tmp 4, .tmp 5] := by kernel_rfl
theorem kept_spec (n : Int) (ok : Bool) (h : AHeap) : ACalls Try.prog 36 [i64 n, bl ok] h (fun x h' => x = .tu [i64 (if ok then n else 0), bl ok] ∧ h' = h) := by
  obtain ⟨c', hc1, hc2⟩ := res36
  refine ACalls.enter Try.func36 hc1 Try.ntmps36 hc2 (Nat.le_of_ble_eq_true rfl) rfl ?_
  cases ok
  all_goals
    repeat' (first
      | refine S.nilK ?_
      | (refine S.op rfl ?_; first
        | refine R.mv rfl ?_
        | refine R.fieldAddr rfl ?_
        | refine R.fieldAddrR rfl ?_
        | refine R.nilCheck rfl ?_
        | refine R.nilCheckR rfl ?_
        | refine R.loadR rfl rfl ?_
        | refine R.load (by decide) rfl (by (repeat' (first | assumption | exact AHeap.set_same _ _ _ | refine AHeap.get_fresh (by assumption) ?_ | refine AHeap.so ?_ ?_ | exact AHeap.n1 (by assumption) | exact AHeap.n2 (by assumption) | exact AHeap.ne_of (by assumption) (by assumption) | exact AHeap.n4 (by assumption) (by assumption) | exact AHeap.n5 (by assumption) | exact AHeap.n6 (by assumption) | exact AHeap.n7 (by assumption) (by assumption) | exact AHeap.n8 (by assumption) (by assumption))); first | done | fail) rfl ?_
        | refine S.addI rfl rfl (by omega) ?_
        | refine S.subI rfl rfl (by omega) ?_
        | refine S.addU rfl rfl ?_
        | refine S.subU rfl rfl ?_
        | refine S.addUc rfl (by decide) ?_
        | refine S.subUc rfl (by decide) ?_
        | refine S.arith rfl rfl rfl ?_
        | refine R.pickT rfl rfl ?_
        | refine R.pickF rfl rfl ?_
        | refine R.len rfl ?_
        | refine R.lenA rfl ?_
        | refine R.lenStr rfl ?_
        | refine S.convIU rfl (by omega) ?_
        | refine S.convUI rfl (by omega) ?_
        | refine R.convInt rfl ?_
        | refine R.not rfl ?_
        | refine R.eqPtrNil rfl rfl ?_
        | refine R.extract rfl rfl ?_
        | refine R.field rfl rfl ?_
        | refine R.alloc rfl (fun b hb => ?_)
        | refine R.box rfl rfl rfl (fun b hb => ?_)
        | refine R.build rfl rfl ?_
        | refine R.buildSl rfl rfl rfl (by decide) ?_
        | refine R.toStr rfl ?_
        | refine R.convStr rfl ?_
        | refine R.minmax rfl ?_
        | refine R.makeFunc rfl rfl ?_
        | (first | refine S.lss rfl rfl (fun hlt => ?_) (fun hlt => by exfalso; omega) | refine S.lss rfl rfl (fun hlt => by exfalso; omega) (fun hlt => ?_) | refine S.lss rfl rfl (fun hlt => ?_) (fun hlt => ?_))
        | (first | refine S.gtr rfl rfl (fun hlt => ?_) (fun hlt => by exfalso; omega) | refine S.gtr rfl rfl (fun hlt => by exfalso; omega) (fun hlt => ?_) | refine S.gtr rfl rfl (fun hlt => ?_) (fun hlt => ?_))
        | (first | refine S.leq rfl rfl (fun hlt => ?_) (fun hlt => by exfalso; omega) | refine S.leq rfl rfl (fun hlt => by exfalso; omega) (fun hlt => ?_) | refine S.leq rfl rfl (fun hlt => ?_) (fun hlt => ?_))
        | (first | refine S.geq rfl rfl (fun hlt => ?_) (fun hlt => by exfalso; omega) | refine S.geq rfl rfl (fun hlt => by exfalso; omega) (fun hlt => ?_) | refine S.geq rfl rfl (fun hlt => ?_) (fun hlt => ?_))
        | (first | refine S.eqInt rfl rfl (fun hlt => ?_) (fun hlt => by exfalso; omega) | refine S.eqInt rfl rfl (fun hlt => by exfalso; omega) (fun hlt => ?_) | refine S.eqInt rfl rfl (fun hlt => ?_) (fun hlt => ?_)))
      | (refine S.op0 rfl ?_; first | refine S.storeS rfl rfl rfl (by rfl) rfl (by first | decide | exact Nat.le_refl _ | exact Nat.le_of_ble_eq_true rfl) ?_ | refine S.store rfl rfl (by (repeat' (first | assumption | exact AHeap.set_same _ _ _ | refine AHeap.get_fresh (by assumption) ?_ | refine AHeap.so ?_ ?_ | exact AHeap.n1 (by assumption) | exact AHeap.n2 (by assumption) | exact AHeap.ne_of (by assumption) (by assumption) | exact AHeap.n4 (by assumption) (by assumption) | exact AHeap.n5 (by assumption) | exact AHeap.n6 (by assumption) | exact AHeap.n7 (by assumption) (by assumption) | exact AHeap.n8 (by assumption) (by assumption))); first | done | fail) rfl rfl rfl (by rfl) rfl ?_)
      | refine S.skip rfl ?_
      | refine S.skip0 rfl ?_
      | refine S.seq ?_
      | refine S.region ?_
      | refine S.regionT ?_
      | refine S.tstep ?_
      | refine S.talt ?_ ?_
      | exact S.tstop
      | refine S.tdone ?_
      | refine S.condT rfl ?_
      | refine S.condF rfl ?_
      | refine RRun.skip ?_
      | refine RRun.block ?_
      | refine RRun.inBlock ?_
      | refine RRun.exit rfl ?_)
    apply S.ret rr36
    case hx => repeat (first | exact ResAt.nil | apply ResAt.tmp rfl | apply ResAt.cellA rfl (by (repeat' (first | assumption | exact AHeap.set_same _ _ _ | refine AHeap.get_fresh (by assumption) ?_ | refine AHeap.so ?_ ?_ | exact AHeap.n1 (by assumption) | exact AHeap.n2 (by assumption) | exact AHeap.ne_of (by assumption) (by assumption) | exact AHeap.n4 (by assumption) (by assumption) | exact AHeap.n5 (by assumption) | exact AHeap.n6 (by assumption) | exact AHeap.n7 (by assumption) (by assumption) | exact AHeap.n8 (by assumption) (by assumption))); first | done | fail) (by rfl) | apply ResAt.cell1 rfl (by (repeat' (first | assumption | exact AHeap.set_same _ _ _ | refine AHeap.get_fresh (by assumption) ?_ | refine AHeap.so ?_ ?_ | exact AHeap.n1 (by assumption) | exact AHeap.n2 (by assumption) | exact AHeap.ne_of (by assumption) (by assumption) | exact AHeap.n4 (by assumption) (by assumption) | exact AHeap.n5 (by assumption) | exact AHeap.n6 (by assumption) | exact AHeap.n7 (by assumption) (by assumption) | exact AHeap.n8 (by assumption) (by assumption))); first | done | fail) (by rfl))
    exact ⟨rfl, rfl⟩

/-- plenum/num.same -/
def r37 : RCode :=
  (.seq (.region [
    ⟨(some 4), none, .act, .mv (.const (.bool false))⟩])
  (.seq (.region [
    ⟨(some 5), none, .act, .mv (.tmp 0)⟩,
    ⟨(some 6), none, .act, .mv (.tmp 1)⟩,
    ⟨(some 7), none, .act, .bin .xor (.tmp 5) (.tmp 6)⟩,
    ⟨(some 8), none, .act, .bin .shr (.tmp 7) (.const (.int .u64 63))⟩,
    ⟨(some 9), none, .act, .eq false .int (.tmp 8) (.const (.int .i64 0))⟩,
    ⟨(some 4), none, .act, .mv (.tmp 9)⟩])
  .ret))
theorem res37 : ∃ c, Try.f37.body = some c ∧ resCode Try.prog 10 c = some r37 := ⟨_, rfl, by kernel_rfl⟩
theorem rr37 : resRes Try.prog Try.f37.results.toList = some [.tmp 4] := by kernel_rfl
theorem same_spec (a b : Int) (ha : Fits a) (hb : Fits b) (h : AHeap) : ACalls Try.prog 37 [i64 a, i64 b] h (fun x h' => x = bl (decide (a < 0 ↔ b < 0)) ∧ h' = h) := by
  obtain ⟨c', hc1, hc2⟩ := res37
  refine ACalls.enter Try.func37 hc1 Try.ntmps37 hc2 (Nat.le_of_ble_eq_true rfl) rfl ?_
  have hx := xor_sign ha hb
  have hf := fdiv_sign (wrap_i64_fits ((BitVec.ofInt 64 a ^^^ BitVec.ofInt 64 b).toNat : Int))
  repeat' (first
    | refine S.nilK ?_
    | (refine S.op rfl ?_; first
      | refine R.bin rfl rfl (by rfl) ?_
      | refine R.shr rfl rfl (by decide) ?_
      | refine R.mv rfl ?_
      | refine R.fieldAddr rfl ?_
      | refine R.fieldAddrR rfl ?_
      | refine R.nilCheck rfl ?_
      | refine R.nilCheckR rfl ?_
      | refine R.loadR rfl rfl ?_
      | refine R.load (by decide) rfl (by (repeat' (first | assumption | exact AHeap.set_same _ _ _ | refine AHeap.get_fresh (by assumption) ?_ | refine AHeap.so ?_ ?_ | exact AHeap.n1 (by assumption) | exact AHeap.n2 (by assumption) | exact AHeap.ne_of (by assumption) (by assumption) | exact AHeap.n4 (by assumption) (by assumption) | exact AHeap.n5 (by assumption) | exact AHeap.n6 (by assumption) | exact AHeap.n7 (by assumption) (by assumption) | exact AHeap.n8 (by assumption) (by assumption))); first | done | fail) rfl ?_
      | refine S.addI rfl rfl (by omega) ?_
      | refine S.subI rfl rfl (by omega) ?_
      | refine S.addU rfl rfl ?_
      | refine S.subU rfl rfl ?_
      | refine S.addUc rfl (by decide) ?_
      | refine S.subUc rfl (by decide) ?_
      | refine S.arith rfl rfl rfl ?_
      | refine R.pickT rfl rfl ?_
      | refine R.pickF rfl rfl ?_
      | refine R.len rfl ?_
      | refine R.lenA rfl ?_
      | refine R.lenStr rfl ?_
      | refine S.convIU rfl (by omega) ?_
      | refine S.convUI rfl (by omega) ?_
      | refine R.convInt rfl ?_
      | refine R.not rfl ?_
      | refine R.eqPtrNil rfl rfl ?_
      | refine R.extract rfl rfl ?_
      | refine R.field rfl rfl ?_
      | refine R.alloc rfl (fun b hb => ?_)
      | refine R.box rfl rfl rfl (fun b hb => ?_)
      | refine R.build rfl rfl ?_
      | refine R.buildSl rfl rfl rfl (by decide) ?_
      | refine R.toStr rfl ?_
      | refine R.convStr rfl ?_
      | refine R.minmax rfl ?_
      | refine R.makeFunc rfl rfl ?_
      | (first | refine S.lss rfl rfl (fun hlt => ?_) (fun hlt => by exfalso; omega) | refine S.lss rfl rfl (fun hlt => by exfalso; omega) (fun hlt => ?_) | refine S.lss rfl rfl (fun hlt => ?_) (fun hlt => ?_))
      | (first | refine S.gtr rfl rfl (fun hlt => ?_) (fun hlt => by exfalso; omega) | refine S.gtr rfl rfl (fun hlt => by exfalso; omega) (fun hlt => ?_) | refine S.gtr rfl rfl (fun hlt => ?_) (fun hlt => ?_))
      | (first | refine S.leq rfl rfl (fun hlt => ?_) (fun hlt => by exfalso; omega) | refine S.leq rfl rfl (fun hlt => by exfalso; omega) (fun hlt => ?_) | refine S.leq rfl rfl (fun hlt => ?_) (fun hlt => ?_))
      | (first | refine S.geq rfl rfl (fun hlt => ?_) (fun hlt => by exfalso; omega) | refine S.geq rfl rfl (fun hlt => by exfalso; omega) (fun hlt => ?_) | refine S.geq rfl rfl (fun hlt => ?_) (fun hlt => ?_))
      | (first | refine S.eqInt rfl rfl (fun hlt => ?_) (fun hlt => by exfalso; omega) | refine S.eqInt rfl rfl (fun hlt => by exfalso; omega) (fun hlt => ?_) | refine S.eqInt rfl rfl (fun hlt => ?_) (fun hlt => ?_)))
    | (refine S.op0 rfl ?_; first | refine S.storeS rfl rfl rfl (by rfl) rfl (by first | decide | exact Nat.le_refl _ | exact Nat.le_of_ble_eq_true rfl) ?_ | refine S.store rfl rfl (by (repeat' (first | assumption | exact AHeap.set_same _ _ _ | refine AHeap.get_fresh (by assumption) ?_ | refine AHeap.so ?_ ?_ | exact AHeap.n1 (by assumption) | exact AHeap.n2 (by assumption) | exact AHeap.ne_of (by assumption) (by assumption) | exact AHeap.n4 (by assumption) (by assumption) | exact AHeap.n5 (by assumption) | exact AHeap.n6 (by assumption) | exact AHeap.n7 (by assumption) (by assumption) | exact AHeap.n8 (by assumption) (by assumption))); first | done | fail) rfl rfl rfl (by rfl) rfl ?_)
    | refine S.skip rfl ?_
    | refine S.skip0 rfl ?_
    | refine S.seq ?_
    | refine S.region ?_
    | refine S.regionT ?_
    | refine S.tstep ?_
    | refine S.talt ?_ ?_
    | exact S.tstop
    | refine S.tdone ?_
    | refine S.condT rfl ?_
    | refine S.condF rfl ?_
    | refine RRun.skip ?_
    | refine RRun.block ?_
    | refine RRun.inBlock ?_
    | refine RRun.exit rfl ?_)
  · apply S.ret rr37
    case hx => repeat (first | exact ResAt.nil | apply ResAt.tmp rfl | apply ResAt.cellA rfl (by (repeat' (first | assumption | exact AHeap.set_same _ _ _ | refine AHeap.get_fresh (by assumption) ?_ | refine AHeap.so ?_ ?_ | exact AHeap.n1 (by assumption) | exact AHeap.n2 (by assumption) | exact AHeap.ne_of (by assumption) (by assumption) | exact AHeap.n4 (by assumption) (by assumption) | exact AHeap.n5 (by assumption) | exact AHeap.n6 (by assumption) | exact AHeap.n7 (by assumption) (by assumption) | exact AHeap.n8 (by assumption) (by assumption))); first | done | fail) (by rfl) | apply ResAt.cell1 rfl (by (repeat' (first | assumption | exact AHeap.set_same _ _ _ | refine AHeap.get_fresh (by assumption) ?_ | refine AHeap.so ?_ ?_ | exact AHeap.n1 (by assumption) | exact AHeap.n2 (by assumption) | exact AHeap.ne_of (by assumption) (by assumption) | exact AHeap.n4 (by assumption) (by assumption) | exact AHeap.n5 (by assumption) | exact AHeap.n6 (by assumption) | exact AHeap.n7 (by assumption) (by assumption) | exact AHeap.n8 (by assumption) (by assumption))); first | done | fail) (by rfl))
    exact ⟨congrArg bl (Eq.symm (decide_eq_true (Decidable.not_not.1 (fun e => (hf.1 hlt) (hx.2 e))))), rfl⟩
  · apply S.ret rr37
    case hx => repeat (first | exact ResAt.nil | apply ResAt.tmp rfl | apply ResAt.cellA rfl (by (repeat' (first | assumption | exact AHeap.set_same _ _ _ | refine AHeap.get_fresh (by assumption) ?_ | refine AHeap.so ?_ ?_ | exact AHeap.n1 (by assumption) | exact AHeap.n2 (by assumption) | exact AHeap.ne_of (by assumption) (by assumption) | exact AHeap.n4 (by assumption) (by assumption) | exact AHeap.n5 (by assumption) | exact AHeap.n6 (by assumption) | exact AHeap.n7 (by assumption) (by assumption) | exact AHeap.n8 (by assumption) (by assumption))); first | done | fail) (by rfl) | apply ResAt.cell1 rfl (by (repeat' (first | assumption | exact AHeap.set_same _ _ _ | refine AHeap.get_fresh (by assumption) ?_ | refine AHeap.so ?_ ?_ | exact AHeap.n1 (by assumption) | exact AHeap.n2 (by assumption) | exact AHeap.ne_of (by assumption) (by assumption) | exact AHeap.n4 (by assumption) (by assumption) | exact AHeap.n5 (by assumption) | exact AHeap.n6 (by assumption) | exact AHeap.n7 (by assumption) (by assumption) | exact AHeap.n8 (by assumption) (by assumption))); first | done | fail) (by rfl))
    exact ⟨congrArg bl (Eq.symm (decide_eq_false (fun e => hlt (hf.2 (fun e' => (hx.1 e') e))))), rfl⟩

theorem wrap_u64_min {n : Int} (hn : Fits n) : IntKind.u64.wrap n = 9223372036854775808 ↔ n = -9223372036854775808 := by
  simp only [IntKind.wrap, IntKind.bits, IntKind.signed]
  simp
  omega

/-- plenum/num.least -/
def r39 : RCode :=
  (.seq (.region [
    ⟨(some 2), none, .act, .mv (.const (.bool false))⟩])
  (.seq (.region [
    ⟨(some 3), none, .act, .mv (.tmp 0)⟩,
    ⟨(some 4), none, .act, .convInt .u64 (.tmp 3)⟩,
    ⟨(some 5), none, .act, .eq false .int (.tmp 4) (.const (.int .u64 9223372036854775808))⟩,
    ⟨(some 2), none, .act, .mv (.tmp 5)⟩])
  .ret))
theorem res39 : ∃ c, Try.f39.body = some c ∧ resCode Try.prog 6 c = some r39 := ⟨_, rfl, by kernel_rfl⟩
theorem rr39 : resRes Try.prog Try.f39.results.toList = some [.tmp 2] := by kernel_rfl
theorem least_spec (n : Int) (hn : Fits n) (h : AHeap) : ACalls Try.prog 39 [i64 n] h (fun x h' => x = bl (decide (n = -9223372036854775808)) ∧ h' = h) := by
  obtain ⟨c', hc1, hc2⟩ := res39
  refine ACalls.enter Try.func39 hc1 Try.ntmps39 hc2 (Nat.le_of_ble_eq_true rfl) rfl ?_
  have hw := wrap_u64_min hn
  repeat' (first
    | refine S.nilK ?_
    | (refine S.op rfl ?_; first
      | refine S.eqInt rfl rfl (fun hlt => ?_) (fun hlt => ?_)
      | refine R.mv rfl ?_
      | refine R.fieldAddr rfl ?_
      | refine R.fieldAddrR rfl ?_
      | refine R.nilCheck rfl ?_
      | refine R.nilCheckR rfl ?_
      | refine R.loadR rfl rfl ?_
      | refine R.load (by decide) rfl (by (repeat' (first | assumption | exact AHeap.set_same _ _ _ | refine AHeap.get_fresh (by assumption) ?_ | refine AHeap.so ?_ ?_ | exact AHeap.n1 (by assumption) | exact AHeap.n2 (by assumption) | exact AHeap.ne_of (by assumption) (by assumption) | exact AHeap.n4 (by assumption) (by assumption) | exact AHeap.n5 (by assumption) | exact AHeap.n6 (by assumption) | exact AHeap.n7 (by assumption) (by assumption) | exact AHeap.n8 (by assumption) (by assumption))); first | done | fail) rfl ?_
      | refine S.addI rfl rfl (by omega) ?_
      | refine S.subI rfl rfl (by omega) ?_
      | refine S.addU rfl rfl ?_
      | refine S.subU rfl rfl ?_
      | refine S.addUc rfl (by decide) ?_
      | refine S.subUc rfl (by decide) ?_
      | refine S.arith rfl rfl rfl ?_
      | refine R.pickT rfl rfl ?_
      | refine R.pickF rfl rfl ?_
      | refine R.len rfl ?_
      | refine R.lenA rfl ?_
      | refine R.lenStr rfl ?_
      | refine S.convIU rfl (by omega) ?_
      | refine S.convUI rfl (by omega) ?_
      | refine R.convInt rfl ?_
      | refine R.not rfl ?_
      | refine R.eqPtrNil rfl rfl ?_
      | refine R.extract rfl rfl ?_
      | refine R.field rfl rfl ?_
      | refine R.alloc rfl (fun b hb => ?_)
      | refine R.box rfl rfl rfl (fun b hb => ?_)
      | refine R.build rfl rfl ?_
      | refine R.buildSl rfl rfl rfl (by decide) ?_
      | refine R.toStr rfl ?_
      | refine R.convStr rfl ?_
      | refine R.minmax rfl ?_
      | refine R.makeFunc rfl rfl ?_
      | (first | refine S.lss rfl rfl (fun hlt => ?_) (fun hlt => by exfalso; omega) | refine S.lss rfl rfl (fun hlt => by exfalso; omega) (fun hlt => ?_) | refine S.lss rfl rfl (fun hlt => ?_) (fun hlt => ?_))
      | (first | refine S.gtr rfl rfl (fun hlt => ?_) (fun hlt => by exfalso; omega) | refine S.gtr rfl rfl (fun hlt => by exfalso; omega) (fun hlt => ?_) | refine S.gtr rfl rfl (fun hlt => ?_) (fun hlt => ?_))
      | (first | refine S.leq rfl rfl (fun hlt => ?_) (fun hlt => by exfalso; omega) | refine S.leq rfl rfl (fun hlt => by exfalso; omega) (fun hlt => ?_) | refine S.leq rfl rfl (fun hlt => ?_) (fun hlt => ?_))
      | (first | refine S.geq rfl rfl (fun hlt => ?_) (fun hlt => by exfalso; omega) | refine S.geq rfl rfl (fun hlt => by exfalso; omega) (fun hlt => ?_) | refine S.geq rfl rfl (fun hlt => ?_) (fun hlt => ?_))
      | (first | refine S.eqInt rfl rfl (fun hlt => ?_) (fun hlt => by exfalso; omega) | refine S.eqInt rfl rfl (fun hlt => by exfalso; omega) (fun hlt => ?_) | refine S.eqInt rfl rfl (fun hlt => ?_) (fun hlt => ?_)))
    | (refine S.op0 rfl ?_; first | refine S.storeS rfl rfl rfl (by rfl) rfl (by first | decide | exact Nat.le_refl _ | exact Nat.le_of_ble_eq_true rfl) ?_ | refine S.store rfl rfl (by (repeat' (first | assumption | exact AHeap.set_same _ _ _ | refine AHeap.get_fresh (by assumption) ?_ | refine AHeap.so ?_ ?_ | exact AHeap.n1 (by assumption) | exact AHeap.n2 (by assumption) | exact AHeap.ne_of (by assumption) (by assumption) | exact AHeap.n4 (by assumption) (by assumption) | exact AHeap.n5 (by assumption) | exact AHeap.n6 (by assumption) | exact AHeap.n7 (by assumption) (by assumption) | exact AHeap.n8 (by assumption) (by assumption))); first | done | fail) rfl rfl rfl (by rfl) rfl ?_)
    | refine S.skip rfl ?_
    | refine S.skip0 rfl ?_
    | refine S.seq ?_
    | refine S.region ?_
    | refine S.regionT ?_
    | refine S.tstep ?_
    | refine S.talt ?_ ?_
    | exact S.tstop
    | refine S.tdone ?_
    | refine S.condT rfl ?_
    | refine S.condF rfl ?_
    | refine RRun.skip ?_
    | refine RRun.block ?_
    | refine RRun.inBlock ?_
    | refine RRun.exit rfl ?_)
  · apply S.ret rr39
    case hx => repeat (first | exact ResAt.nil | apply ResAt.tmp rfl | apply ResAt.cellA rfl (by (repeat' (first | assumption | exact AHeap.set_same _ _ _ | refine AHeap.get_fresh (by assumption) ?_ | refine AHeap.so ?_ ?_ | exact AHeap.n1 (by assumption) | exact AHeap.n2 (by assumption) | exact AHeap.ne_of (by assumption) (by assumption) | exact AHeap.n4 (by assumption) (by assumption) | exact AHeap.n5 (by assumption) | exact AHeap.n6 (by assumption) | exact AHeap.n7 (by assumption) (by assumption) | exact AHeap.n8 (by assumption) (by assumption))); first | done | fail) (by rfl) | apply ResAt.cell1 rfl (by (repeat' (first | assumption | exact AHeap.set_same _ _ _ | refine AHeap.get_fresh (by assumption) ?_ | refine AHeap.so ?_ ?_ | exact AHeap.n1 (by assumption) | exact AHeap.n2 (by assumption) | exact AHeap.ne_of (by assumption) (by assumption) | exact AHeap.n4 (by assumption) (by assumption) | exact AHeap.n5 (by assumption) | exact AHeap.n6 (by assumption) | exact AHeap.n7 (by assumption) (by assumption) | exact AHeap.n8 (by assumption) (by assumption))); first | done | fail) (by rfl))
    exact ⟨congrArg bl (Eq.symm (decide_eq_true (hw.1 hlt))), rfl⟩
  · apply S.ret rr39
    case hx => repeat (first | exact ResAt.nil | apply ResAt.tmp rfl | apply ResAt.cellA rfl (by (repeat' (first | assumption | exact AHeap.set_same _ _ _ | refine AHeap.get_fresh (by assumption) ?_ | refine AHeap.so ?_ ?_ | exact AHeap.n1 (by assumption) | exact AHeap.n2 (by assumption) | exact AHeap.ne_of (by assumption) (by assumption) | exact AHeap.n4 (by assumption) (by assumption) | exact AHeap.n5 (by assumption) | exact AHeap.n6 (by assumption) | exact AHeap.n7 (by assumption) (by assumption) | exact AHeap.n8 (by assumption) (by assumption))); first | done | fail) (by rfl) | apply ResAt.cell1 rfl (by (repeat' (first | assumption | exact AHeap.set_same _ _ _ | refine AHeap.get_fresh (by assumption) ?_ | refine AHeap.so ?_ ?_ | exact AHeap.n1 (by assumption) | exact AHeap.n2 (by assumption) | exact AHeap.ne_of (by assumption) (by assumption) | exact AHeap.n4 (by assumption) (by assumption) | exact AHeap.n5 (by assumption) | exact AHeap.n6 (by assumption) | exact AHeap.n7 (by assumption) (by assumption) | exact AHeap.n8 (by assumption) (by assumption))); first | done | fail) (by rfl))
    exact ⟨congrArg bl (Eq.symm (decide_eq_false (fun e => hlt (hw.2 e)))), rfl⟩

theorem okN_of {n m : Int} {b : Bool} (hb : b = decide (Fits n)) (hm : Fits n → m = n) : AV.tu [i64 (if b then m else 0), bl b] = okN n := by
  subst hb
  unfold okN
  by_cases h : Fits n
  · rw [if_pos (decide_eq_true h), if_pos h, hm h]
  · rw [if_neg (by simp only [decide_eq_true_eq]; exact h), if_neg h]

/-- plenum/num.Neg -/
def r35 : RCode :=
  (.seq (.region [
    ⟨(some 2), none, .act, .mv (.const (.int .i64 0))⟩,
    ⟨(some 3), none, .act, .mv (.const (.bool false))⟩])
  (.seq (.region [
    ⟨(some 4), none, .act, .mv (.tmp 0)⟩,
    ⟨(some 5), none, .act, .un .neg (.tmp 4)⟩,
    ⟨(some 6), none, .act, .mv (.tmp 0)⟩,
    ⟨(some 7), none, .act, .call 39 [(.tmp 6)]⟩,
    ⟨(some 8), none, .act, .un .not (.tmp 7)⟩,
    ⟨(some 9), none, .act, .call 36 [(.tmp 5), (.tmp 8)]⟩,
    ⟨(some 10), none, .act, .extract (.tmp 9) 0⟩,
    ⟨(some 11), none, .act, .extract (.tmp 9) 1⟩,
    ⟨(some 2), none, .act, .mv (.tmp 10)⟩,
    ⟨(some 3), none, .act, .mv (.tmp 11)⟩])
  .ret))
theorem res35 : ∃ c, Try.f35.body = some c ∧ resCode Try.prog 12 c = some r35 := ⟨_, rfl, by kernel_rfl⟩
theorem rr35 : resRes Try.prog Try.f35.results.toList = some [.tmp 2, .tmp 3] := by kernel_rfl
theorem neg_spec (n : Int) (hn : Fits n) (h : AHeap) : ACalls Try.prog 35 [i64 n] h (fun x h' => x = okN (-n) ∧ h' = h) := by
  obtain ⟨c', hc1, hc2⟩ := res35
  refine ACalls.enter Try.func35 hc1 Try.ntmps35 hc2 (Nat.le_of_ble_eq_true rfl) rfl ?_
  have c1 := least_spec n hn h
  have hb : (!(decide (n = -9223372036854775808))) = decide (Fits (-n)) := by
    by_cases he : n = -9223372036854775808
    · subst he; decide
    · simp only [he, decide_false, Bool.not_false]; exact (decide_eq_true (by omega)).symm
  have c2 := kept_spec (IntKind.i64.wrap (0 - n)) (!(decide (n = -9223372036854775808))) h
  rw [okN_of hb (fun hf => by have := wrap_i64_fits (0 - n); obtain ⟨k, hk⟩ := wrap_i64_mod (0 - n); omega)] at c2
  repeat' (first
    | refine S.nilK ?_
    | (refine S.op rfl ?_; first
      | refine R.neg rfl ?_
      | refine R.callQ (by decide) rfl c1 ?_
      | refine R.callQ (by decide) rfl c2 ?_
      | refine R.mv rfl ?_
      | refine R.fieldAddr rfl ?_
      | refine R.fieldAddrR rfl ?_
      | refine R.nilCheck rfl ?_
      | refine R.nilCheckR rfl ?_
      | refine R.loadR rfl rfl ?_
      | refine R.load (by decide) rfl (by (repeat' (first | assumption | exact AHeap.set_same _ _ _ | refine AHeap.get_fresh (by assumption) ?_ | refine AHeap.so ?_ ?_ | exact AHeap.n1 (by assumption) | exact AHeap.n2 (by assumption) | exact AHeap.ne_of (by assumption) (by assumption) | exact AHeap.n4 (by assumption) (by assumption) | exact AHeap.n5 (by assumption) | exact AHeap.n6 (by assumption) | exact AHeap.n7 (by assumption) (by assumption) | exact AHeap.n8 (by assumption) (by assumption))); first | done | fail) rfl ?_
      | refine S.addI rfl rfl (by omega) ?_
      | refine S.subI rfl rfl (by omega) ?_
      | refine S.addU rfl rfl ?_
      | refine S.subU rfl rfl ?_
      | refine S.addUc rfl (by decide) ?_
      | refine S.subUc rfl (by decide) ?_
      | refine S.arith rfl rfl rfl ?_
      | refine R.pickT rfl rfl ?_
      | refine R.pickF rfl rfl ?_
      | refine R.len rfl ?_
      | refine R.lenA rfl ?_
      | refine R.lenStr rfl ?_
      | refine S.convIU rfl (by omega) ?_
      | refine S.convUI rfl (by omega) ?_
      | refine R.convInt rfl ?_
      | refine R.not rfl ?_
      | refine R.eqPtrNil rfl rfl ?_
      | refine R.extract rfl rfl ?_
      | refine R.field rfl rfl ?_
      | refine R.alloc rfl (fun b hb => ?_)
      | refine R.box rfl rfl rfl (fun b hb => ?_)
      | refine R.build rfl rfl ?_
      | refine R.buildSl rfl rfl rfl (by decide) ?_
      | refine R.toStr rfl ?_
      | refine R.convStr rfl ?_
      | refine R.minmax rfl ?_
      | refine R.makeFunc rfl rfl ?_
      | (first | refine S.lss rfl rfl (fun hlt => ?_) (fun hlt => by exfalso; omega) | refine S.lss rfl rfl (fun hlt => by exfalso; omega) (fun hlt => ?_) | refine S.lss rfl rfl (fun hlt => ?_) (fun hlt => ?_))
      | (first | refine S.gtr rfl rfl (fun hlt => ?_) (fun hlt => by exfalso; omega) | refine S.gtr rfl rfl (fun hlt => by exfalso; omega) (fun hlt => ?_) | refine S.gtr rfl rfl (fun hlt => ?_) (fun hlt => ?_))
      | (first | refine S.leq rfl rfl (fun hlt => ?_) (fun hlt => by exfalso; omega) | refine S.leq rfl rfl (fun hlt => by exfalso; omega) (fun hlt => ?_) | refine S.leq rfl rfl (fun hlt => ?_) (fun hlt => ?_))
      | (first | refine S.geq rfl rfl (fun hlt => ?_) (fun hlt => by exfalso; omega) | refine S.geq rfl rfl (fun hlt => by exfalso; omega) (fun hlt => ?_) | refine S.geq rfl rfl (fun hlt => ?_) (fun hlt => ?_))
      | (first | refine S.eqInt rfl rfl (fun hlt => ?_) (fun hlt => by exfalso; omega) | refine S.eqInt rfl rfl (fun hlt => by exfalso; omega) (fun hlt => ?_) | refine S.eqInt rfl rfl (fun hlt => ?_) (fun hlt => ?_)))
    | (refine S.op0 rfl ?_; first | refine S.storeS rfl rfl rfl (by rfl) rfl (by first | decide | exact Nat.le_refl _ | exact Nat.le_of_ble_eq_true rfl) ?_ | refine S.store rfl rfl (by (repeat' (first | assumption | exact AHeap.set_same _ _ _ | refine AHeap.get_fresh (by assumption) ?_ | refine AHeap.so ?_ ?_ | exact AHeap.n1 (by assumption) | exact AHeap.n2 (by assumption) | exact AHeap.ne_of (by assumption) (by assumption) | exact AHeap.n4 (by assumption) (by assumption) | exact AHeap.n5 (by assumption) | exact AHeap.n6 (by assumption) | exact AHeap.n7 (by assumption) (by assumption) | exact AHeap.n8 (by assumption) (by assumption))); first | done | fail) rfl rfl rfl (by rfl) rfl ?_)
    | refine S.skip rfl ?_
    | refine S.skip0 rfl ?_
    | refine S.seq ?_
    | refine S.region ?_
    | refine S.regionT ?_
    | refine S.tstep ?_
    | refine S.talt ?_ ?_
    | exact S.tstop
    | refine S.tdone ?_
    | refine S.condT rfl ?_
    | refine S.condF rfl ?_
    | refine RRun.skip ?_
    | refine RRun.block ?_
    | refine RRun.inBlock ?_
    | refine RRun.exit rfl ?_)
  apply S.ret rr35
  case hx => repeat (first | exact ResAt.nil | apply ResAt.tmp rfl | apply ResAt.cellA rfl (by (repeat' (first | assumption | exact AHeap.set_same _ _ _ | refine AHeap.get_fresh (by assumption) ?_ | refine AHeap.so ?_ ?_ | exact AHeap.n1 (by assumption) | exact AHeap.n2 (by assumption) | exact AHeap.ne_of (by assumption) (by assumption) | exact AHeap.n4 (by assumption) (by assumption) | exact AHeap.n5 (by assumption) | exact AHeap.n6 (by assumption) | exact AHeap.n7 (by assumption) (by assumption) | exact AHeap.n8 (by assumption) (by assumption))); first | done | fail) (by rfl) | apply ResAt.cell1 rfl (by (repeat' (first | assumption | exact AHeap.set_same _ _ _ | refine AHeap.get_fresh (by assumption) ?_ | refine AHeap.so ?_ ?_ | exact AHeap.n1 (by assumption) | exact AHeap.n2 (by assumption) | exact AHeap.ne_of (by assumption) (by assumption) | exact AHeap.n4 (by assumption) (by assumption) | exact AHeap.n5 (by assumption) | exact AHeap.n6 (by assumption) | exact AHeap.n7 (by assumption) (by assumption) | exact AHeap.n8 (by assumption) (by assumption))); first | done | fail) (by rfl))
  exact ⟨rfl, rfl⟩

/-- plenum/num.Add -/
def r33 : RCode :=
  (.seq (.region [
    ⟨(some 4), none, .act, .mv (.const (.int .i64 0))⟩,
    ⟨(some 5), none, .act, .mv (.const (.bool false))⟩])
  (.seq (.region [
    ⟨(some 7), none, .act, .mv (.tmp 0)⟩,
    ⟨(some 8), none, .act, .mv (.tmp 1)⟩,
    ⟨(some 9), none, .act, .bin .add (.tmp 7) (.tmp 8)⟩,
    ⟨(some 6), none, .act, .mv (.tmp 9)⟩])
  (.seq (.region [
    ⟨(some 10), none, .act, .mv (.tmp 6)⟩,
    ⟨(some 11), none, .act, .mv (.tmp 0)⟩,
    ⟨(some 12), none, .act, .mv (.tmp 1)⟩,
    ⟨(some 13), none, .act, .call 37 [(.tmp 11), (.tmp 12)]⟩,
    ⟨(some 14), none, .act, .un .not (.tmp 13)⟩,
    ⟨(some 15), none, .act, .mv (.tmp 14)⟩,
    ⟨(some 16), (some (15, false)), .act, .mv (.tmp 0)⟩,
    ⟨(some 17), (some (15, false)), .act, .mv (.tmp 6)⟩,
    ⟨(some 18), (some (15, false)), .act, .call 37 [(.tmp 16), (.tmp 17)]⟩,
    ⟨(some 19), none, .act, .pick (.tmp 15) (.const (.bool true)) (.tmp 18)⟩,
    ⟨(some 20), none, .act, .call 36 [(.tmp 10), (.tmp 19)]⟩,
    ⟨(some 21), none, .act, .extract (.tmp 20) 0⟩,
    ⟨(some 22), none, .act, .extract (.tmp 20) 1⟩,
    ⟨(some 4), none, .act, .mv (.tmp 21)⟩,
    ⟨(some 5), none, .act, .mv (.tmp 22)⟩])
  .ret)))
theorem res33 : ∃ c, Try.f33.body = some c ∧ resCode Try.prog 23 c = some r33 := ⟨_, rfl, by kernel_rfl⟩
theorem rr33 : resRes Try.prog Try.f33.results.toList = some [.tmp 4, .tmp 5] := by kernel_rfl
theorem add_spec (a b : Int) (ha : Fits a) (hb : Fits b) (h : AHeap) : ACalls Try.prog 33 [i64 a, i64 b] h (fun x h' => x = okN (a + b) ∧ h' = h) := by
  obtain ⟨c', hc1, hc2⟩ := res33
  refine ACalls.enter Try.func33 hc1 Try.ntmps33 hc2 (Nat.le_of_ble_eq_true rfl) rfl ?_
  have hw := wrap_i64_fits (a + b)
  obtain ⟨k, hk⟩ := wrap_i64_mod (a + b)
  have c1 := same_spec a b ha hb h
  have c2 := same_spec a (IntKind.i64.wrap (a + b)) ha hw h
  cases h1 : decide (a < 0 ↔ b < 0) with
  | false =>
    rw [h1] at c1
    have h1' := of_decide_eq_false h1
    have c3 := kept_spec (IntKind.i64.wrap (a + b)) true h
    rw [okN_of (n := a + b) (decide_eq_true (by omega)).symm (fun hf => by omega)] at c3
    repeat' (first
      | refine S.nilK ?_
      | (refine S.op rfl ?_; first
        | refine S.arith rfl rfl rfl ?_
        | refine R.callQ (by decide) rfl c1 ?_
        | refine R.callQ (by decide) rfl c3 ?_
        | refine R.mv rfl ?_
        | refine R.fieldAddr rfl ?_
        | refine R.fieldAddrR rfl ?_
        | refine R.nilCheck rfl ?_
        | refine R.nilCheckR rfl ?_
        | refine R.loadR rfl rfl ?_
        | refine R.load (by decide) rfl (by (repeat' (first | assumption | exact AHeap.set_same _ _ _ | refine AHeap.get_fresh (by assumption) ?_ | refine AHeap.so ?_ ?_ | exact AHeap.n1 (by assumption) | exact AHeap.n2 (by assumption) | exact AHeap.ne_of (by assumption) (by assumption) | exact AHeap.n4 (by assumption) (by assumption) | exact AHeap.n5 (by assumption) | exact AHeap.n6 (by assumption) | exact AHeap.n7 (by assumption) (by assumption) | exact AHeap.n8 (by assumption) (by assumption))); first | done | fail) rfl ?_
        | refine S.addI rfl rfl (by omega) ?_
        | refine S.subI rfl rfl (by omega) ?_
        | refine S.addU rfl rfl ?_
        | refine S.subU rfl rfl ?_
        | refine S.addUc rfl (by decide) ?_
        | refine S.subUc rfl (by decide) ?_
        | refine S.arith rfl rfl rfl ?_
        | refine R.pickT rfl rfl ?_
        | refine R.pickF rfl rfl ?_
        | refine R.len rfl ?_
        | refine R.lenA rfl ?_
        | refine R.lenStr rfl ?_
        | refine S.convIU rfl (by omega) ?_
        | refine S.convUI rfl (by omega) ?_
        | refine R.convInt rfl ?_
        | refine R.not rfl ?_
        | refine R.eqPtrNil rfl rfl ?_
        | refine R.extract rfl rfl ?_
        | refine R.field rfl rfl ?_
        | refine R.alloc rfl (fun b hb => ?_)
        | refine R.box rfl rfl rfl (fun b hb => ?_)
        | refine R.build rfl rfl ?_
        | refine R.buildSl rfl rfl rfl (by decide) ?_
        | refine R.toStr rfl ?_
        | refine R.convStr rfl ?_
        | refine R.minmax rfl ?_
        | refine R.makeFunc rfl rfl ?_
        | (first | refine S.lss rfl rfl (fun hlt => ?_) (fun hlt => by exfalso; omega) | refine S.lss rfl rfl (fun hlt => by exfalso; omega) (fun hlt => ?_) | refine S.lss rfl rfl (fun hlt => ?_) (fun hlt => ?_))
        | (first | refine S.gtr rfl rfl (fun hlt => ?_) (fun hlt => by exfalso; omega) | refine S.gtr rfl rfl (fun hlt => by exfalso; omega) (fun hlt => ?_) | refine S.gtr rfl rfl (fun hlt => ?_) (fun hlt => ?_))
        | (first | refine S.leq rfl rfl (fun hlt => ?_) (fun hlt => by exfalso; omega) | refine S.leq rfl rfl (fun hlt => by exfalso; omega) (fun hlt => ?_) | refine S.leq rfl rfl (fun hlt => ?_) (fun hlt => ?_))
        | (first | refine S.geq rfl rfl (fun hlt => ?_) (fun hlt => by exfalso; omega) | refine S.geq rfl rfl (fun hlt => by exfalso; omega) (fun hlt => ?_) | refine S.geq rfl rfl (fun hlt => ?_) (fun hlt => ?_))
        | (first | refine S.eqInt rfl rfl (fun hlt => ?_) (fun hlt => by exfalso; omega) | refine S.eqInt rfl rfl (fun hlt => by exfalso; omega) (fun hlt => ?_) | refine S.eqInt rfl rfl (fun hlt => ?_) (fun hlt => ?_)))
      | (refine S.op0 rfl ?_; first | refine S.storeS rfl rfl rfl (by rfl) rfl (by first | decide | exact Nat.le_refl _ | exact Nat.le_of_ble_eq_true rfl) ?_ | refine S.store rfl rfl (by (repeat' (first | assumption | exact AHeap.set_same _ _ _ | refine AHeap.get_fresh (by assumption) ?_ | refine AHeap.so ?_ ?_ | exact AHeap.n1 (by assumption) | exact AHeap.n2 (by assumption) | exact AHeap.ne_of (by assumption) (by assumption) | exact AHeap.n4 (by assumption) (by assumption) | exact AHeap.n5 (by assumption) | exact AHeap.n6 (by assumption) | exact AHeap.n7 (by assumption) (by assumption) | exact AHeap.n8 (by assumption) (by assumption))); first | done | fail) rfl rfl rfl (by rfl) rfl ?_)
      | refine S.skip rfl ?_
      | refine S.skip0 rfl ?_
      | refine S.seq ?_
      | refine S.region ?_
      | refine S.regionT ?_
      | refine S.tstep ?_
      | refine S.talt ?_ ?_
      | exact S.tstop
      | refine S.tdone ?_
      | refine S.condT rfl ?_
      | refine S.condF rfl ?_
      | refine RRun.skip ?_
      | refine RRun.block ?_
      | refine RRun.inBlock ?_
      | refine RRun.exit rfl ?_)
    apply S.ret rr33
    case hx => repeat (first | exact ResAt.nil | apply ResAt.tmp rfl | apply ResAt.cellA rfl (by (repeat' (first | assumption | exact AHeap.set_same _ _ _ | refine AHeap.get_fresh (by assumption) ?_ | refine AHeap.so ?_ ?_ | exact AHeap.n1 (by assumption) | exact AHeap.n2 (by assumption) | exact AHeap.ne_of (by assumption) (by assumption) | exact AHeap.n4 (by assumption) (by assumption) | exact AHeap.n5 (by assumption) | exact AHeap.n6 (by assumption) | exact AHeap.n7 (by assumption) (by assumption) | exact AHeap.n8 (by assumption) (by assumption))); first | done | fail) (by rfl) | apply ResAt.cell1 rfl (by (repeat' (first | assumption | exact AHeap.set_same _ _ _ | refine AHeap.get_fresh (by assumption) ?_ | refine AHeap.so ?_ ?_ | exact AHeap.n1 (by assumption) | exact AHeap.n2 (by assumption) | exact AHeap.ne_of (by assumption) (by assumption) | exact AHeap.n4 (by assumption) (by assumption) | exact AHeap.n5 (by assumption) | exact AHeap.n6 (by assumption) | exact AHeap.n7 (by assumption) (by assumption) | exact AHeap.n8 (by assumption) (by assumption))); first | done | fail) (by rfl))
    exact ⟨rfl, rfl⟩
  | true =>
    rw [h1] at c1
    have h1' := of_decide_eq_true h1
    have c3 := kept_spec (IntKind.i64.wrap (a + b)) (decide (a < 0 ↔ IntKind.i64.wrap (a + b) < 0)) h
    rw [okN_of (n := a + b) (decide_eq_decide.2 (by omega)) (fun hf => by omega)] at c3
    repeat' (first
      | refine S.nilK ?_
      | (refine S.op rfl ?_; first
        | refine S.arith rfl rfl rfl ?_
        | refine R.callQ (by decide) rfl c1 ?_
        | refine R.callQ (by decide) rfl c2 ?_
        | refine R.callQ (by decide) rfl c3 ?_
        | refine R.mv rfl ?_
        | refine R.fieldAddr rfl ?_
        | refine R.fieldAddrR rfl ?_
        | refine R.nilCheck rfl ?_
        | refine R.nilCheckR rfl ?_
        | refine R.loadR rfl rfl ?_
        | refine R.load (by decide) rfl (by (repeat' (first | assumption | exact AHeap.set_same _ _ _ | refine AHeap.get_fresh (by assumption) ?_ | refine AHeap.so ?_ ?_ | exact AHeap.n1 (by assumption) | exact AHeap.n2 (by assumption) | exact AHeap.ne_of (by assumption) (by assumption) | exact AHeap.n4 (by assumption) (by assumption) | exact AHeap.n5 (by assumption) | exact AHeap.n6 (by assumption) | exact AHeap.n7 (by assumption) (by assumption) | exact AHeap.n8 (by assumption) (by assumption))); first | done | fail) rfl ?_
        | refine S.addI rfl rfl (by omega) ?_
        | refine S.subI rfl rfl (by omega) ?_
        | refine S.addU rfl rfl ?_
        | refine S.subU rfl rfl ?_
        | refine S.addUc rfl (by decide) ?_
        | refine S.subUc rfl (by decide) ?_
        | refine S.arith rfl rfl rfl ?_
        | refine R.pickT rfl rfl ?_
        | refine R.pickF rfl rfl ?_
        | refine R.len rfl ?_
        | refine R.lenA rfl ?_
        | refine R.lenStr rfl ?_
        | refine S.convIU rfl (by omega) ?_
        | refine S.convUI rfl (by omega) ?_
        | refine R.convInt rfl ?_
        | refine R.not rfl ?_
        | refine R.eqPtrNil rfl rfl ?_
        | refine R.extract rfl rfl ?_
        | refine R.field rfl rfl ?_
        | refine R.alloc rfl (fun b hb => ?_)
        | refine R.box rfl rfl rfl (fun b hb => ?_)
        | refine R.build rfl rfl ?_
        | refine R.buildSl rfl rfl rfl (by decide) ?_
        | refine R.toStr rfl ?_
        | refine R.convStr rfl ?_
        | refine R.minmax rfl ?_
        | refine R.makeFunc rfl rfl ?_
        | (first | refine S.lss rfl rfl (fun hlt => ?_) (fun hlt => by exfalso; omega) | refine S.lss rfl rfl (fun hlt => by exfalso; omega) (fun hlt => ?_) | refine S.lss rfl rfl (fun hlt => ?_) (fun hlt => ?_))
        | (first | refine S.gtr rfl rfl (fun hlt => ?_) (fun hlt => by exfalso; omega) | refine S.gtr rfl rfl (fun hlt => by exfalso; omega) (fun hlt => ?_) | refine S.gtr rfl rfl (fun hlt => ?_) (fun hlt => ?_))
        | (first | refine S.leq rfl rfl (fun hlt => ?_) (fun hlt => by exfalso; omega) | refine S.leq rfl rfl (fun hlt => by exfalso; omega) (fun hlt => ?_) | refine S.leq rfl rfl (fun hlt => ?_) (fun hlt => ?_))
        | (first | refine S.geq rfl rfl (fun hlt => ?_) (fun hlt => by exfalso; omega) | refine S.geq rfl rfl (fun hlt => by exfalso; omega) (fun hlt => ?_) | refine S.geq rfl rfl (fun hlt => ?_) (fun hlt => ?_))
        | (first | refine S.eqInt rfl rfl (fun hlt => ?_) (fun hlt => by exfalso; omega) | refine S.eqInt rfl rfl (fun hlt => by exfalso; omega) (fun hlt => ?_) | refine S.eqInt rfl rfl (fun hlt => ?_) (fun hlt => ?_)))
      | (refine S.op0 rfl ?_; first | refine S.storeS rfl rfl rfl (by rfl) rfl (by first | decide | exact Nat.le_refl _ | exact Nat.le_of_ble_eq_true rfl) ?_ | refine S.store rfl rfl (by (repeat' (first | assumption | exact AHeap.set_same _ _ _ | refine AHeap.get_fresh (by assumption) ?_ | refine AHeap.so ?_ ?_ | exact AHeap.n1 (by assumption) | exact AHeap.n2 (by assumption) | exact AHeap.ne_of (by assumption) (by assumption) | exact AHeap.n4 (by assumption) (by assumption) | exact AHeap.n5 (by assumption) | exact AHeap.n6 (by assumption) | exact AHeap.n7 (by assumption) (by assumption) | exact AHeap.n8 (by assumption) (by assumption))); first | done | fail) rfl rfl rfl (by rfl) rfl ?_)
      | refine S.skip rfl ?_
      | refine S.skip0 rfl ?_
      | refine S.seq ?_
      | refine S.region ?_
      | refine S.regionT ?_
      | refine S.tstep ?_
      | refine S.talt ?_ ?_
      | exact S.tstop
      | refine S.tdone ?_
      | refine S.condT rfl ?_
      | refine S.condF rfl ?_
      | refine RRun.skip ?_
      | refine RRun.block ?_
      | refine RRun.inBlock ?_
      | refine RRun.exit rfl ?_)
    apply S.ret rr33
    case hx => repeat (first | exact ResAt.nil | apply ResAt.tmp rfl | apply ResAt.cellA rfl (by (repeat' (first | assumption | exact AHeap.set_same _ _ _ | refine AHeap.get_fresh (by assumption) ?_ | refine AHeap.so ?_ ?_ | exact AHeap.n1 (by assumption) | exact AHeap.n2 (by assumption) | exact AHeap.ne_of (by assumption) (by assumption) | exact AHeap.n4 (by assumption) (by assumption) | exact AHeap.n5 (by assumption) | exact AHeap.n6 (by assumption) | exact AHeap.n7 (by assumption) (by assumption) | exact AHeap.n8 (by assumption) (by assumption))); first | done | fail) (by rfl) | apply ResAt.cell1 rfl (by (repeat' (first | assumption | exact AHeap.set_same _ _ _ | refine AHeap.get_fresh (by assumption) ?_ | refine AHeap.so ?_ ?_ | exact AHeap.n1 (by assumption) | exact AHeap.n2 (by assumption) | exact AHeap.ne_of (by assumption) (by assumption) | exact AHeap.n4 (by assumption) (by assumption) | exact AHeap.n5 (by assumption) | exact AHeap.n6 (by assumption) | exact AHeap.n7 (by assumption) (by assumption) | exact AHeap.n8 (by assumption) (by assumption))); first | done | fail) (by rfl))
    exact ⟨rfl, rfl⟩

/-- plenum/num.Mul -/
def r32 : RCode :=
  (.seq (.region [
    ⟨(some 4), none, .act, .mv (.const (.int .i64 0))⟩,
    ⟨(some 5), none, .act, .mv (.const (.bool false))⟩])
  (.seq (.seq (.region [
    ⟨(some 7), none, .act, .mv (.tmp 0)⟩,
    ⟨(some 8), none, .act, .eq false .int (.tmp 7) (.const (.int .i64 0))⟩,
    ⟨(some 9), none, .act, .mv (.tmp 8)⟩,
    ⟨(some 10), (some (9, false)), .act, .mv (.tmp 1)⟩,
    ⟨(some 11), (some (9, false)), .act, .eq false .int (.tmp 10) (.const (.int .i64 0))⟩,
    ⟨(some 12), none, .act, .pick (.tmp 9) (.const (.bool true)) (.tmp 11)⟩])
  (.cond (.tmp 12)
   (.seq (.region [
     ⟨(some 4), none, .act, .mv (.const (.int .i64 0))⟩,
     ⟨(some 5), none, .act, .mv (.const (.bool true))⟩])
   .ret)
   .skip))
  (.seq (.seq (.region [
    ⟨(some 13), none, .act, .mv (.tmp 0)⟩,
    ⟨(some 14), none, .act, .eq false .int (.tmp 13) (.const (.int .i64 (-1)))⟩])
  (.cond (.tmp 14)
   (.seq (.region [
     ⟨(some 15), none, .act, .mv (.tmp 1)⟩,
     ⟨(some 16), none, .act, .call 35 [(.tmp 15)]⟩,
     ⟨(some 17), none, .act, .extract (.tmp 16) 0⟩,
     ⟨(some 18), none, .act, .extract (.tmp 16) 1⟩,
     ⟨(some 4), none, .act, .mv (.tmp 17)⟩,
     ⟨(some 5), none, .act, .mv (.tmp 18)⟩])
   .ret)
   .skip))
  (.seq (.seq (.region [
    ⟨(some 19), none, .act, .mv (.tmp 1)⟩,
    ⟨(some 20), none, .act, .eq false .int (.tmp 19) (.const (.int .i64 (-1)))⟩])
  (.cond (.tmp 20)
   (.seq (.region [
     ⟨(some 21), none, .act, .mv (.tmp 0)⟩,
     ⟨(some 22), none, .act, .call 35 [(.tmp 21)]⟩,
     ⟨(some 23), none, .act, .extract (.tmp 22) 0⟩,
     ⟨(some 24), none, .act, .extract (.tmp 22) 1⟩,
     ⟨(some 4), none, .act, .mv (.tmp 23)⟩,
     ⟨(some 5), none, .act, .mv (.tmp 24)⟩])
   .ret)
   .skip))
  (.seq (.region [
    ⟨(some 25), none, .act, .mv (.tmp 0)⟩,
    ⟨(some 26), none, .act, .mv (.tmp 1)⟩,
    ⟨(some 27), none, .act, .bin .mul (.tmp 25) (.tmp 26)⟩,
    ⟨(some 6), none, .act, .mv (.tmp 27)⟩])
  (.seq (.region [
    ⟨(some 28), none, .act, .mv (.tmp 6)⟩,
    ⟨(some 29), none, .act, .mv (.tmp 6)⟩,
    ⟨(some 30), none, .act, .mv (.tmp 1)⟩,
    ⟨(some 31), none, .act, .bin .quo (.tmp 29) (.tmp 30)⟩,
    ⟨(some 32), none, .act, .mv (.tmp 0)⟩,
    ⟨(some 33), none, .act, .eq false .int (.tmp 31) (.tmp 32)⟩,
    ⟨(some 34), none, .act, .call 36 [(.tmp 28), (.tmp 33)]⟩,
    ⟨(some 35), none, .act, .extract (.tmp 34) 0⟩,
    ⟨(some 36), none, .act, .extract (.tmp 34) 1⟩,
    ⟨(some 4), none, .act, .mv (.tmp 35)⟩,
    ⟨(some 5), none, .act, .mv (.tmp 36)⟩])
  .ret))))))
theorem res32 : ∃ c, Try.f32.body = some c ∧ resCode Try.prog 37 c = some r32 := ⟨_, rfl, by kernel_rfl⟩
theorem rr32 : resRes Try.prog Try.f32.results.toList = some [.tmp 4, .tmp 5] := by kernel_rfl
theorem mul_spec (a b : Int) (ha : Fits a) (hb : Fits b) (h : AHeap) : ACalls Try.prog 32 [i64 a, i64 b] h (fun x h' => x = okN (a * b) ∧ h' = h) := by
  obtain ⟨c', hc1, hc2⟩ := res32
  refine ACalls.enter Try.func32 hc1 Try.ntmps32 hc2 (Nat.le_of_ble_eq_true rfl) rfl ?_
  have hw := wrap_i64_fits (a * b)
  obtain ⟨k, hk⟩ := wrap_i64_mod (a * b)
  have c1 := neg_spec a ha h
  have c2 := neg_spec b hb h
  by_cases ha0 : a = 0
  · subst ha0
    repeat' (first
      | refine S.nilK ?_
      | (refine S.op rfl ?_; first
        | refine R.mv rfl ?_
        | refine R.fieldAddr rfl ?_
        | refine R.fieldAddrR rfl ?_
        | refine R.nilCheck rfl ?_
        | refine R.nilCheckR rfl ?_
        | refine R.loadR rfl rfl ?_
        | refine R.load (by decide) rfl (by (repeat' (first | assumption | exact AHeap.set_same _ _ _ | refine AHeap.get_fresh (by assumption) ?_ | refine AHeap.so ?_ ?_ | exact AHeap.n1 (by assumption) | exact AHeap.n2 (by assumption) | exact AHeap.ne_of (by assumption) (by assumption) | exact AHeap.n4 (by assumption) (by assumption) | exact AHeap.n5 (by assumption) | exact AHeap.n6 (by assumption) | exact AHeap.n7 (by assumption) (by assumption) | exact AHeap.n8 (by assumption) (by assumption))); first | done | fail) rfl ?_
        | refine S.addI rfl rfl (by omega) ?_
        | refine S.subI rfl rfl (by omega) ?_
        | refine S.addU rfl rfl ?_
        | refine S.subU rfl rfl ?_
        | refine S.addUc rfl (by decide) ?_
        | refine S.subUc rfl (by decide) ?_
        | refine S.arith rfl rfl rfl ?_
        | refine R.pickT rfl rfl ?_
        | refine R.pickF rfl rfl ?_
        | refine R.len rfl ?_
        | refine R.lenA rfl ?_
        | refine R.lenStr rfl ?_
        | refine S.convIU rfl (by omega) ?_
        | refine S.convUI rfl (by omega) ?_
        | refine R.convInt rfl ?_
        | refine R.not rfl ?_
        | refine R.eqPtrNil rfl rfl ?_
        | refine R.extract rfl rfl ?_
        | refine R.field rfl rfl ?_
        | refine R.alloc rfl (fun b hb => ?_)
        | refine R.box rfl rfl rfl (fun b hb => ?_)
        | refine R.build rfl rfl ?_
        | refine R.buildSl rfl rfl rfl (by decide) ?_
        | refine R.toStr rfl ?_
        | refine R.convStr rfl ?_
        | refine R.minmax rfl ?_
        | refine R.makeFunc rfl rfl ?_
        | (first | refine S.lss rfl rfl (fun hlt => ?_) (fun hlt => by exfalso; omega) | refine S.lss rfl rfl (fun hlt => by exfalso; omega) (fun hlt => ?_) | refine S.lss rfl rfl (fun hlt => ?_) (fun hlt => ?_))
        | (first | refine S.gtr rfl rfl (fun hlt => ?_) (fun hlt => by exfalso; omega) | refine S.gtr rfl rfl (fun hlt => by exfalso; omega) (fun hlt => ?_) | refine S.gtr rfl rfl (fun hlt => ?_) (fun hlt => ?_))
        | (first | refine S.leq rfl rfl (fun hlt => ?_) (fun hlt => by exfalso; omega) | refine S.leq rfl rfl (fun hlt => by exfalso; omega) (fun hlt => ?_) | refine S.leq rfl rfl (fun hlt => ?_) (fun hlt => ?_))
        | (first | refine S.geq rfl rfl (fun hlt => ?_) (fun hlt => by exfalso; omega) | refine S.geq rfl rfl (fun hlt => by exfalso; omega) (fun hlt => ?_) | refine S.geq rfl rfl (fun hlt => ?_) (fun hlt => ?_))
        | (first | refine S.eqInt rfl rfl (fun hlt => ?_) (fun hlt => by exfalso; omega) | refine S.eqInt rfl rfl (fun hlt => by exfalso; omega) (fun hlt => ?_) | refine S.eqInt rfl rfl (fun hlt => ?_) (fun hlt => ?_)))
      | (refine S.op0 rfl ?_; first | refine S.storeS rfl rfl rfl (by rfl) rfl (by first | decide | exact Nat.le_refl _ | exact Nat.le_of_ble_eq_true rfl) ?_ | refine S.store rfl rfl (by (repeat' (first | assumption | exact AHeap.set_same _ _ _ | refine AHeap.get_fresh (by assumption) ?_ | refine AHeap.so ?_ ?_ | exact AHeap.n1 (by assumption) | exact AHeap.n2 (by assumption) | exact AHeap.ne_of (by assumption) (by assumption) | exact AHeap.n4 (by assumption) (by assumption) | exact AHeap.n5 (by assumption) | exact AHeap.n6 (by assumption) | exact AHeap.n7 (by assumption) (by assumption) | exact AHeap.n8 (by assumption) (by assumption))); first | done | fail) rfl rfl rfl (by rfl) rfl ?_)
      | refine S.skip rfl ?_
      | refine S.skip0 rfl ?_
      | refine S.seq ?_
      | refine S.region ?_
      | refine S.regionT ?_
      | refine S.tstep ?_
      | refine S.talt ?_ ?_
      | exact S.tstop
      | refine S.tdone ?_
      | refine S.condT rfl ?_
      | refine S.condF rfl ?_
      | refine RRun.skip ?_
      | refine RRun.block ?_
      | refine RRun.inBlock ?_
      | refine RRun.exit rfl ?_)
    all_goals
      apply S.ret rr32
      case hx => repeat (first | exact ResAt.nil | apply ResAt.tmp rfl | apply ResAt.cellA rfl (by (repeat' (first | assumption | exact AHeap.set_same _ _ _ | refine AHeap.get_fresh (by assumption) ?_ | refine AHeap.so ?_ ?_ | exact AHeap.n1 (by assumption) | exact AHeap.n2 (by assumption) | exact AHeap.ne_of (by assumption) (by assumption) | exact AHeap.n4 (by assumption) (by assumption) | exact AHeap.n5 (by assumption) | exact AHeap.n6 (by assumption) | exact AHeap.n7 (by assumption) (by assumption) | exact AHeap.n8 (by assumption) (by assumption))); first | done | fail) (by rfl) | apply ResAt.cell1 rfl (by (repeat' (first | assumption | exact AHeap.set_same _ _ _ | refine AHeap.get_fresh (by assumption) ?_ | refine AHeap.so ?_ ?_ | exact AHeap.n1 (by assumption) | exact AHeap.n2 (by assumption) | exact AHeap.ne_of (by assumption) (by assumption) | exact AHeap.n4 (by assumption) (by assumption) | exact AHeap.n5 (by assumption) | exact AHeap.n6 (by assumption) | exact AHeap.n7 (by assumption) (by assumption) | exact AHeap.n8 (by assumption) (by assumption))); first | done | fail) (by rfl))
      exact ⟨by rw [Int.zero_mul]; rfl, rfl⟩
  by_cases hb0 : b = 0
  · subst hb0
    repeat' (first
      | refine S.nilK ?_
      | (refine S.op rfl ?_; first
        | refine R.mv rfl ?_
        | refine R.fieldAddr rfl ?_
        | refine R.fieldAddrR rfl ?_
        | refine R.nilCheck rfl ?_
        | refine R.nilCheckR rfl ?_
        | refine R.loadR rfl rfl ?_
        | refine R.load (by decide) rfl (by (repeat' (first | assumption | exact AHeap.set_same _ _ _ | refine AHeap.get_fresh (by assumption) ?_ | refine AHeap.so ?_ ?_ | exact AHeap.n1 (by assumption) | exact AHeap.n2 (by assumption) | exact AHeap.ne_of (by assumption) (by assumption) | exact AHeap.n4 (by assumption) (by assumption) | exact AHeap.n5 (by assumption) | exact AHeap.n6 (by assumption) | exact AHeap.n7 (by assumption) (by assumption) | exact AHeap.n8 (by assumption) (by assumption))); first | done | fail) rfl ?_
        | refine S.addI rfl rfl (by omega) ?_
        | refine S.subI rfl rfl (by omega) ?_
        | refine S.addU rfl rfl ?_
        | refine S.subU rfl rfl ?_
        | refine S.addUc rfl (by decide) ?_
        | refine S.subUc rfl (by decide) ?_
        | refine S.arith rfl rfl rfl ?_
        | refine R.pickT rfl rfl ?_
        | refine R.pickF rfl rfl ?_
        | refine R.len rfl ?_
        | refine R.lenA rfl ?_
        | refine R.lenStr rfl ?_
        | refine S.convIU rfl (by omega) ?_
        | refine S.convUI rfl (by omega) ?_
        | refine R.convInt rfl ?_
        | refine R.not rfl ?_
        | refine R.eqPtrNil rfl rfl ?_
        | refine R.extract rfl rfl ?_
        | refine R.field rfl rfl ?_
        | refine R.alloc rfl (fun b hb => ?_)
        | refine R.box rfl rfl rfl (fun b hb => ?_)
        | refine R.build rfl rfl ?_
        | refine R.buildSl rfl rfl rfl (by decide) ?_
        | refine R.toStr rfl ?_
        | refine R.convStr rfl ?_
        | refine R.minmax rfl ?_
        | refine R.makeFunc rfl rfl ?_
        | (first | refine S.lss rfl rfl (fun hlt => ?_) (fun hlt => by exfalso; omega) | refine S.lss rfl rfl (fun hlt => by exfalso; omega) (fun hlt => ?_) | refine S.lss rfl rfl (fun hlt => ?_) (fun hlt => ?_))
        | (first | refine S.gtr rfl rfl (fun hlt => ?_) (fun hlt => by exfalso; omega) | refine S.gtr rfl rfl (fun hlt => by exfalso; omega) (fun hlt => ?_) | refine S.gtr rfl rfl (fun hlt => ?_) (fun hlt => ?_))
        | (first | refine S.leq rfl rfl (fun hlt => ?_) (fun hlt => by exfalso; omega) | refine S.leq rfl rfl (fun hlt => by exfalso; omega) (fun hlt => ?_) | refine S.leq rfl rfl (fun hlt => ?_) (fun hlt => ?_))
        | (first | refine S.geq rfl rfl (fun hlt => ?_) (fun hlt => by exfalso; omega) | refine S.geq rfl rfl (fun hlt => by exfalso; omega) (fun hlt => ?_) | refine S.geq rfl rfl (fun hlt => ?_) (fun hlt => ?_))
        | (first | refine S.eqInt rfl rfl (fun hlt => ?_) (fun hlt => by exfalso; omega) | refine S.eqInt rfl rfl (fun hlt => by exfalso; omega) (fun hlt => ?_) | refine S.eqInt rfl rfl (fun hlt => ?_) (fun hlt => ?_)))
      | (refine S.op0 rfl ?_; first | refine S.storeS rfl rfl rfl (by rfl) rfl (by first | decide | exact Nat.le_refl _ | exact Nat.le_of_ble_eq_true rfl) ?_ | refine S.store rfl rfl (by (repeat' (first | assumption | exact AHeap.set_same _ _ _ | refine AHeap.get_fresh (by assumption) ?_ | refine AHeap.so ?_ ?_ | exact AHeap.n1 (by assumption) | exact AHeap.n2 (by assumption) | exact AHeap.ne_of (by assumption) (by assumption) | exact AHeap.n4 (by assumption) (by assumption) | exact AHeap.n5 (by assumption) | exact AHeap.n6 (by assumption) | exact AHeap.n7 (by assumption) (by assumption) | exact AHeap.n8 (by assumption) (by assumption))); first | done | fail) rfl rfl rfl (by rfl) rfl ?_)
      | refine S.skip rfl ?_
      | refine S.skip0 rfl ?_
      | refine S.seq ?_
      | refine S.region ?_
      | refine S.regionT ?_
      | refine S.tstep ?_
      | refine S.talt ?_ ?_
      | exact S.tstop
      | refine S.tdone ?_
      | refine S.condT rfl ?_
      | refine S.condF rfl ?_
      | refine RRun.skip ?_
      | refine RRun.block ?_
      | refine RRun.inBlock ?_
      | refine RRun.exit rfl ?_)
    all_goals
      apply S.ret rr32
      case hx => repeat (first | exact ResAt.nil | apply ResAt.tmp rfl | apply ResAt.cellA rfl (by (repeat' (first | assumption | exact AHeap.set_same _ _ _ | refine AHeap.get_fresh (by assumption) ?_ | refine AHeap.so ?_ ?_ | exact AHeap.n1 (by assumption) | exact AHeap.n2 (by assumption) | exact AHeap.ne_of (by assumption) (by assumption) | exact AHeap.n4 (by assumption) (by assumption) | exact AHeap.n5 (by assumption) | exact AHeap.n6 (by assumption) | exact AHeap.n7 (by assumption) (by assumption) | exact AHeap.n8 (by assumption) (by assumption))); first | done | fail) (by rfl) | apply ResAt.cell1 rfl (by (repeat' (first | assumption | exact AHeap.set_same _ _ _ | refine AHeap.get_fresh (by assumption) ?_ | refine AHeap.so ?_ ?_ | exact AHeap.n1 (by assumption) | exact AHeap.n2 (by assumption) | exact AHeap.ne_of (by assumption) (by assumption) | exact AHeap.n4 (by assumption) (by assumption) | exact AHeap.n5 (by assumption) | exact AHeap.n6 (by assumption) | exact AHeap.n7 (by assumption) (by assumption) | exact AHeap.n8 (by assumption) (by assumption))); first | done | fail) (by rfl))
      exact ⟨by rw [Int.mul_zero]; rfl, rfl⟩
  by_cases ha1 : a = -1
  · subst ha1
    repeat' (first
      | refine S.nilK ?_
      | (refine S.op rfl ?_; first
        | refine R.callQ (by decide) rfl c2 ?_
        | refine R.mv rfl ?_
        | refine R.fieldAddr rfl ?_
        | refine R.fieldAddrR rfl ?_
        | refine R.nilCheck rfl ?_
        | refine R.nilCheckR rfl ?_
        | refine R.loadR rfl rfl ?_
        | refine R.load (by decide) rfl (by (repeat' (first | assumption | exact AHeap.set_same _ _ _ | refine AHeap.get_fresh (by assumption) ?_ | refine AHeap.so ?_ ?_ | exact AHeap.n1 (by assumption) | exact AHeap.n2 (by assumption) | exact AHeap.ne_of (by assumption) (by assumption) | exact AHeap.n4 (by assumption) (by assumption) | exact AHeap.n5 (by assumption) | exact AHeap.n6 (by assumption) | exact AHeap.n7 (by assumption) (by assumption) | exact AHeap.n8 (by assumption) (by assumption))); first | done | fail) rfl ?_
        | refine S.addI rfl rfl (by omega) ?_
        | refine S.subI rfl rfl (by omega) ?_
        | refine S.addU rfl rfl ?_
        | refine S.subU rfl rfl ?_
        | refine S.addUc rfl (by decide) ?_
        | refine S.subUc rfl (by decide) ?_
        | refine S.arith rfl rfl rfl ?_
        | refine R.pickT rfl rfl ?_
        | refine R.pickF rfl rfl ?_
        | refine R.len rfl ?_
        | refine R.lenA rfl ?_
        | refine R.lenStr rfl ?_
        | refine S.convIU rfl (by omega) ?_
        | refine S.convUI rfl (by omega) ?_
        | refine R.convInt rfl ?_
        | refine R.not rfl ?_
        | refine R.eqPtrNil rfl rfl ?_
        | refine R.extract rfl rfl ?_
        | refine R.field rfl rfl ?_
        | refine R.alloc rfl (fun b hb => ?_)
        | refine R.box rfl rfl rfl (fun b hb => ?_)
        | refine R.build rfl rfl ?_
        | refine R.buildSl rfl rfl rfl (by decide) ?_
        | refine R.toStr rfl ?_
        | refine R.convStr rfl ?_
        | refine R.minmax rfl ?_
        | refine R.makeFunc rfl rfl ?_
        | (first | refine S.lss rfl rfl (fun hlt => ?_) (fun hlt => by exfalso; omega) | refine S.lss rfl rfl (fun hlt => by exfalso; omega) (fun hlt => ?_) | refine S.lss rfl rfl (fun hlt => ?_) (fun hlt => ?_))
        | (first | refine S.gtr rfl rfl (fun hlt => ?_) (fun hlt => by exfalso; omega) | refine S.gtr rfl rfl (fun hlt => by exfalso; omega) (fun hlt => ?_) | refine S.gtr rfl rfl (fun hlt => ?_) (fun hlt => ?_))
        | (first | refine S.leq rfl rfl (fun hlt => ?_) (fun hlt => by exfalso; omega) | refine S.leq rfl rfl (fun hlt => by exfalso; omega) (fun hlt => ?_) | refine S.leq rfl rfl (fun hlt => ?_) (fun hlt => ?_))
        | (first | refine S.geq rfl rfl (fun hlt => ?_) (fun hlt => by exfalso; omega) | refine S.geq rfl rfl (fun hlt => by exfalso; omega) (fun hlt => ?_) | refine S.geq rfl rfl (fun hlt => ?_) (fun hlt => ?_))
        | (first | refine S.eqInt rfl rfl (fun hlt => ?_) (fun hlt => by exfalso; omega) | refine S.eqInt rfl rfl (fun hlt => by exfalso; omega) (fun hlt => ?_) | refine S.eqInt rfl rfl (fun hlt => ?_) (fun hlt => ?_)))
      | (refine S.op0 rfl ?_; first | refine S.storeS rfl rfl rfl (by rfl) rfl (by first | decide | exact Nat.le_refl _ | exact Nat.le_of_ble_eq_true rfl) ?_ | refine S.store rfl rfl (by (repeat' (first | assumption | exact AHeap.set_same _ _ _ | refine AHeap.get_fresh (by assumption) ?_ | refine AHeap.so ?_ ?_ | exact AHeap.n1 (by assumption) | exact AHeap.n2 (by assumption) | exact AHeap.ne_of (by assumption) (by assumption) | exact AHeap.n4 (by assumption) (by assumption) | exact AHeap.n5 (by assumption) | exact AHeap.n6 (by assumption) | exact AHeap.n7 (by assumption) (by assumption) | exact AHeap.n8 (by assumption) (by assumption))); first | done | fail) rfl rfl rfl (by rfl) rfl ?_)
      | refine S.skip rfl ?_
      | refine S.skip0 rfl ?_
      | refine S.seq ?_
      | refine S.region ?_
      | refine S.regionT ?_
      | refine S.tstep ?_
      | refine S.talt ?_ ?_
      | exact S.tstop
      | refine S.tdone ?_
      | refine S.condT rfl ?_
      | refine S.condF rfl ?_
      | refine RRun.skip ?_
      | refine RRun.block ?_
      | refine RRun.inBlock ?_
      | refine RRun.exit rfl ?_)
    apply S.ret rr32
    case hx => repeat (first | exact ResAt.nil | apply ResAt.tmp rfl | apply ResAt.cellA rfl (by (repeat' (first | assumption | exact AHeap.set_same _ _ _ | refine AHeap.get_fresh (by assumption) ?_ | refine AHeap.so ?_ ?_ | exact AHeap.n1 (by assumption) | exact AHeap.n2 (by assumption) | exact AHeap.ne_of (by assumption) (by assumption) | exact AHeap.n4 (by assumption) (by assumption) | exact AHeap.n5 (by assumption) | exact AHeap.n6 (by assumption) | exact AHeap.n7 (by assumption) (by assumption) | exact AHeap.n8 (by assumption) (by assumption))); first | done | fail) (by rfl) | apply ResAt.cell1 rfl (by (repeat' (first | assumption | exact AHeap.set_same _ _ _ | refine AHeap.get_fresh (by assumption) ?_ | refine AHeap.so ?_ ?_ | exact AHeap.n1 (by assumption) | exact AHeap.n2 (by assumption) | exact AHeap.ne_of (by assumption) (by assumption) | exact AHeap.n4 (by assumption) (by assumption) | exact AHeap.n5 (by assumption) | exact AHeap.n6 (by assumption) | exact AHeap.n7 (by assumption) (by assumption) | exact AHeap.n8 (by assumption) (by assumption))); first | done | fail) (by rfl))
    exact ⟨by rw [show -1 * b = -b by omega]; rfl, rfl⟩
  by_cases hb1 : b = -1
  · subst hb1
    repeat' (first
      | refine S.nilK ?_
      | (refine S.op rfl ?_; first
        | refine R.callQ (by decide) rfl c1 ?_
        | refine R.mv rfl ?_
        | refine R.fieldAddr rfl ?_
        | refine R.fieldAddrR rfl ?_
        | refine R.nilCheck rfl ?_
        | refine R.nilCheckR rfl ?_
        | refine R.loadR rfl rfl ?_
        | refine R.load (by decide) rfl (by (repeat' (first | assumption | exact AHeap.set_same _ _ _ | refine AHeap.get_fresh (by assumption) ?_ | refine AHeap.so ?_ ?_ | exact AHeap.n1 (by assumption) | exact AHeap.n2 (by assumption) | exact AHeap.ne_of (by assumption) (by assumption) | exact AHeap.n4 (by assumption) (by assumption) | exact AHeap.n5 (by assumption) | exact AHeap.n6 (by assumption) | exact AHeap.n7 (by assumption) (by assumption) | exact AHeap.n8 (by assumption) (by assumption))); first | done | fail) rfl ?_
        | refine S.addI rfl rfl (by omega) ?_
        | refine S.subI rfl rfl (by omega) ?_
        | refine S.addU rfl rfl ?_
        | refine S.subU rfl rfl ?_
        | refine S.addUc rfl (by decide) ?_
        | refine S.subUc rfl (by decide) ?_
        | refine S.arith rfl rfl rfl ?_
        | refine R.pickT rfl rfl ?_
        | refine R.pickF rfl rfl ?_
        | refine R.len rfl ?_
        | refine R.lenA rfl ?_
        | refine R.lenStr rfl ?_
        | refine S.convIU rfl (by omega) ?_
        | refine S.convUI rfl (by omega) ?_
        | refine R.convInt rfl ?_
        | refine R.not rfl ?_
        | refine R.eqPtrNil rfl rfl ?_
        | refine R.extract rfl rfl ?_
        | refine R.field rfl rfl ?_
        | refine R.alloc rfl (fun b hb => ?_)
        | refine R.box rfl rfl rfl (fun b hb => ?_)
        | refine R.build rfl rfl ?_
        | refine R.buildSl rfl rfl rfl (by decide) ?_
        | refine R.toStr rfl ?_
        | refine R.convStr rfl ?_
        | refine R.minmax rfl ?_
        | refine R.makeFunc rfl rfl ?_
        | (first | refine S.lss rfl rfl (fun hlt => ?_) (fun hlt => by exfalso; omega) | refine S.lss rfl rfl (fun hlt => by exfalso; omega) (fun hlt => ?_) | refine S.lss rfl rfl (fun hlt => ?_) (fun hlt => ?_))
        | (first | refine S.gtr rfl rfl (fun hlt => ?_) (fun hlt => by exfalso; omega) | refine S.gtr rfl rfl (fun hlt => by exfalso; omega) (fun hlt => ?_) | refine S.gtr rfl rfl (fun hlt => ?_) (fun hlt => ?_))
        | (first | refine S.leq rfl rfl (fun hlt => ?_) (fun hlt => by exfalso; omega) | refine S.leq rfl rfl (fun hlt => by exfalso; omega) (fun hlt => ?_) | refine S.leq rfl rfl (fun hlt => ?_) (fun hlt => ?_))
        | (first | refine S.geq rfl rfl (fun hlt => ?_) (fun hlt => by exfalso; omega) | refine S.geq rfl rfl (fun hlt => by exfalso; omega) (fun hlt => ?_) | refine S.geq rfl rfl (fun hlt => ?_) (fun hlt => ?_))
        | (first | refine S.eqInt rfl rfl (fun hlt => ?_) (fun hlt => by exfalso; omega) | refine S.eqInt rfl rfl (fun hlt => by exfalso; omega) (fun hlt => ?_) | refine S.eqInt rfl rfl (fun hlt => ?_) (fun hlt => ?_)))
      | (refine S.op0 rfl ?_; first | refine S.storeS rfl rfl rfl (by rfl) rfl (by first | decide | exact Nat.le_refl _ | exact Nat.le_of_ble_eq_true rfl) ?_ | refine S.store rfl rfl (by (repeat' (first | assumption | exact AHeap.set_same _ _ _ | refine AHeap.get_fresh (by assumption) ?_ | refine AHeap.so ?_ ?_ | exact AHeap.n1 (by assumption) | exact AHeap.n2 (by assumption) | exact AHeap.ne_of (by assumption) (by assumption) | exact AHeap.n4 (by assumption) (by assumption) | exact AHeap.n5 (by assumption) | exact AHeap.n6 (by assumption) | exact AHeap.n7 (by assumption) (by assumption) | exact AHeap.n8 (by assumption) (by assumption))); first | done | fail) rfl rfl rfl (by rfl) rfl ?_)
      | refine S.skip rfl ?_
      | refine S.skip0 rfl ?_
      | refine S.seq ?_
      | refine S.region ?_
      | refine S.regionT ?_
      | refine S.tstep ?_
      | refine S.talt ?_ ?_
      | exact S.tstop
      | refine S.tdone ?_
      | refine S.condT rfl ?_
      | refine S.condF rfl ?_
      | refine RRun.skip ?_
      | refine RRun.block ?_
      | refine RRun.inBlock ?_
      | refine RRun.exit rfl ?_)
    apply S.ret rr32
    case hx => repeat (first | exact ResAt.nil | apply ResAt.tmp rfl | apply ResAt.cellA rfl (by (repeat' (first | assumption | exact AHeap.set_same _ _ _ | refine AHeap.get_fresh (by assumption) ?_ | refine AHeap.so ?_ ?_ | exact AHeap.n1 (by assumption) | exact AHeap.n2 (by assumption) | exact AHeap.ne_of (by assumption) (by assumption) | exact AHeap.n4 (by assumption) (by assumption) | exact AHeap.n5 (by assumption) | exact AHeap.n6 (by assumption) | exact AHeap.n7 (by assumption) (by assumption) | exact AHeap.n8 (by assumption) (by assumption))); first | done | fail) (by rfl) | apply ResAt.cell1 rfl (by (repeat' (first | assumption | exact AHeap.set_same _ _ _ | refine AHeap.get_fresh (by assumption) ?_ | refine AHeap.so ?_ ?_ | exact AHeap.n1 (by assumption) | exact AHeap.n2 (by assumption) | exact AHeap.ne_of (by assumption) (by assumption) | exact AHeap.n4 (by assumption) (by assumption) | exact AHeap.n5 (by assumption) | exact AHeap.n6 (by assumption) | exact AHeap.n7 (by assumption) (by assumption) | exact AHeap.n8 (by assumption) (by assumption))); first | done | fail) (by rfl))
    exact ⟨by rw [show a * -1 = -a by omega]; rfl, rfl⟩
  have ht := tdiv_wrap (a := a) hb hb0
  have hq : binInt .quo .i64 (IntKind.i64.wrap (a * b)) b = some (.int .i64 (IntKind.i64.wrap ((IntKind.i64.wrap (a * b)).tdiv b))) := by
    simp only [binInt, if_neg hb0]
  have hqw : IntKind.i64.wrap ((IntKind.i64.wrap (a * b)).tdiv b) = (IntKind.i64.wrap (a * b)).tdiv b := by
    by_cases hb2 : b = 1
    · rw [hb2, Int.tdiv_one]
      have := wrap_i64_fits (a * 1)
      exact wrap_i64 (by omega) (by omega)
    have h1 : ((IntKind.i64.wrap (a * b)).tdiv b).natAbs ≤ (IntKind.i64.wrap (a * b)).natAbs / 2 := by
      rw [Int.natAbs_tdiv]
      exact Nat.div_le_div_left (by omega) (by omega)
    generalize (IntKind.i64.wrap (a * b)).tdiv b = q at h1 ⊢
    generalize IntKind.i64.wrap (a * b) = r at h1 hw
    exact wrap_i64 (by omega) (by omega)
  rw [hqw] at hq
  have hfw : IntKind.i64.wrap (a * b) = a * b ↔ Fits (a * b) := ⟨fun e => e ▸ hw, fun e => by omega⟩
  have c3 := kept_spec (IntKind.i64.wrap (a * b)) (decide (Fits (a * b))) h
  rw [okN_of (n := a * b) rfl (fun hf => hfw.2 hf)] at c3
  by_cases hf : Fits (a * b)
  · have e1 : (IntKind.i64.wrap (a * b)).tdiv b = a := ht.2 (hfw.2 hf)
    rw [decide_eq_true hf] at c3
    rw [e1] at hq
    repeat' (first
      | refine S.nilK ?_
      | (refine S.op rfl ?_; first
        | refine R.bin rfl rfl hq ?_
        | refine R.bin rfl rfl (by rfl) ?_
        | refine S.eqIntSame rfl rfl ?_
        | refine R.callQ (by decide) rfl c3 ?_
        | refine R.mv rfl ?_
        | refine R.fieldAddr rfl ?_
        | refine R.fieldAddrR rfl ?_
        | refine R.nilCheck rfl ?_
        | refine R.nilCheckR rfl ?_
        | refine R.loadR rfl rfl ?_
        | refine R.load (by decide) rfl (by (repeat' (first | assumption | exact AHeap.set_same _ _ _ | refine AHeap.get_fresh (by assumption) ?_ | refine AHeap.so ?_ ?_ | exact AHeap.n1 (by assumption) | exact AHeap.n2 (by assumption) | exact AHeap.ne_of (by assumption) (by assumption) | exact AHeap.n4 (by assumption) (by assumption) | exact AHeap.n5 (by assumption) | exact AHeap.n6 (by assumption) | exact AHeap.n7 (by assumption) (by assumption) | exact AHeap.n8 (by assumption) (by assumption))); first | done | fail) rfl ?_
        | refine S.addI rfl rfl (by omega) ?_
        | refine S.subI rfl rfl (by omega) ?_
        | refine S.addU rfl rfl ?_
        | refine S.subU rfl rfl ?_
        | refine S.addUc rfl (by decide) ?_
        | refine S.subUc rfl (by decide) ?_
        | refine S.arith rfl rfl rfl ?_
        | refine R.pickT rfl rfl ?_
        | refine R.pickF rfl rfl ?_
        | refine R.len rfl ?_
        | refine R.lenA rfl ?_
        | refine R.lenStr rfl ?_
        | refine S.convIU rfl (by omega) ?_
        | refine S.convUI rfl (by omega) ?_
        | refine R.convInt rfl ?_
        | refine R.not rfl ?_
        | refine R.eqPtrNil rfl rfl ?_
        | refine R.extract rfl rfl ?_
        | refine R.field rfl rfl ?_
        | refine R.alloc rfl (fun b hb => ?_)
        | refine R.box rfl rfl rfl (fun b hb => ?_)
        | refine R.build rfl rfl ?_
        | refine R.buildSl rfl rfl rfl (by decide) ?_
        | refine R.toStr rfl ?_
        | refine R.convStr rfl ?_
        | refine R.minmax rfl ?_
        | refine R.makeFunc rfl rfl ?_
        | (first | refine S.lss rfl rfl (fun hlt => ?_) (fun hlt => by exfalso; omega) | refine S.lss rfl rfl (fun hlt => by exfalso; omega) (fun hlt => ?_) | refine S.lss rfl rfl (fun hlt => ?_) (fun hlt => ?_))
        | (first | refine S.gtr rfl rfl (fun hlt => ?_) (fun hlt => by exfalso; omega) | refine S.gtr rfl rfl (fun hlt => by exfalso; omega) (fun hlt => ?_) | refine S.gtr rfl rfl (fun hlt => ?_) (fun hlt => ?_))
        | (first | refine S.leq rfl rfl (fun hlt => ?_) (fun hlt => by exfalso; omega) | refine S.leq rfl rfl (fun hlt => by exfalso; omega) (fun hlt => ?_) | refine S.leq rfl rfl (fun hlt => ?_) (fun hlt => ?_))
        | (first | refine S.geq rfl rfl (fun hlt => ?_) (fun hlt => by exfalso; omega) | refine S.geq rfl rfl (fun hlt => by exfalso; omega) (fun hlt => ?_) | refine S.geq rfl rfl (fun hlt => ?_) (fun hlt => ?_))
        | (first | refine S.eqInt rfl rfl (fun hlt => ?_) (fun hlt => by exfalso; omega) | refine S.eqInt rfl rfl (fun hlt => by exfalso; omega) (fun hlt => ?_) | refine S.eqInt rfl rfl (fun hlt => ?_) (fun hlt => ?_)))
      | (refine S.op0 rfl ?_; first | refine S.storeS rfl rfl rfl (by rfl) rfl (by first | decide | exact Nat.le_refl _ | exact Nat.le_of_ble_eq_true rfl) ?_ | refine S.store rfl rfl (by (repeat' (first | assumption | exact AHeap.set_same _ _ _ | refine AHeap.get_fresh (by assumption) ?_ | refine AHeap.so ?_ ?_ | exact AHeap.n1 (by assumption) | exact AHeap.n2 (by assumption) | exact AHeap.ne_of (by assumption) (by assumption) | exact AHeap.n4 (by assumption) (by assumption) | exact AHeap.n5 (by assumption) | exact AHeap.n6 (by assumption) | exact AHeap.n7 (by assumption) (by assumption) | exact AHeap.n8 (by assumption) (by assumption))); first | done | fail) rfl rfl rfl (by rfl) rfl ?_)
      | refine S.skip rfl ?_
      | refine S.skip0 rfl ?_
      | refine S.seq ?_
      | refine S.region ?_
      | refine S.regionT ?_
      | refine S.tstep ?_
      | refine S.talt ?_ ?_
      | exact S.tstop
      | refine S.tdone ?_
      | refine S.condT rfl ?_
      | refine S.condF rfl ?_
      | refine RRun.skip ?_
      | refine RRun.block ?_
      | refine RRun.inBlock ?_
      | refine RRun.exit rfl ?_)
    apply S.ret rr32
    case hx => repeat (first | exact ResAt.nil | apply ResAt.tmp rfl | apply ResAt.cellA rfl (by (repeat' (first | assumption | exact AHeap.set_same _ _ _ | refine AHeap.get_fresh (by assumption) ?_ | refine AHeap.so ?_ ?_ | exact AHeap.n1 (by assumption) | exact AHeap.n2 (by assumption) | exact AHeap.ne_of (by assumption) (by assumption) | exact AHeap.n4 (by assumption) (by assumption) | exact AHeap.n5 (by assumption) | exact AHeap.n6 (by assumption) | exact AHeap.n7 (by assumption) (by assumption) | exact AHeap.n8 (by assumption) (by assumption))); first | done | fail) (by rfl) | apply ResAt.cell1 rfl (by (repeat' (first | assumption | exact AHeap.set_same _ _ _ | refine AHeap.get_fresh (by assumption) ?_ | refine AHeap.so ?_ ?_ | exact AHeap.n1 (by assumption) | exact AHeap.n2 (by assumption) | exact AHeap.ne_of (by assumption) (by assumption) | exact AHeap.n4 (by assumption) (by assumption) | exact AHeap.n5 (by assumption) | exact AHeap.n6 (by assumption) | exact AHeap.n7 (by assumption) (by assumption) | exact AHeap.n8 (by assumption) (by assumption))); first | done | fail) (by rfl))
    exact ⟨rfl, rfl⟩
  · have e1 : ¬ (IntKind.i64.wrap (a * b)).tdiv b = a := fun e => hf (hfw.1 (ht.1 e))
    rw [decide_eq_false hf] at c3
    generalize (IntKind.i64.wrap (a * b)).tdiv b = q at hq e1
    repeat' (first
      | refine S.nilK ?_
      | (refine S.op rfl ?_; first
        | refine R.bin rfl rfl hq ?_
        | refine R.bin rfl rfl (by rfl) ?_
        | refine R.callQ (by decide) rfl c3 ?_
        | refine R.mv rfl ?_
        | refine R.fieldAddr rfl ?_
        | refine R.fieldAddrR rfl ?_
        | refine R.nilCheck rfl ?_
        | refine R.nilCheckR rfl ?_
        | refine R.loadR rfl rfl ?_
        | refine R.load (by decide) rfl (by (repeat' (first | assumption | exact AHeap.set_same _ _ _ | refine AHeap.get_fresh (by assumption) ?_ | refine AHeap.so ?_ ?_ | exact AHeap.n1 (by assumption) | exact AHeap.n2 (by assumption) | exact AHeap.ne_of (by assumption) (by assumption) | exact AHeap.n4 (by assumption) (by assumption) | exact AHeap.n5 (by assumption) | exact AHeap.n6 (by assumption) | exact AHeap.n7 (by assumption) (by assumption) | exact AHeap.n8 (by assumption) (by assumption))); first | done | fail) rfl ?_
        | refine S.addI rfl rfl (by omega) ?_
        | refine S.subI rfl rfl (by omega) ?_
        | refine S.addU rfl rfl ?_
        | refine S.subU rfl rfl ?_
        | refine S.addUc rfl (by decide) ?_
        | refine S.subUc rfl (by decide) ?_
        | refine S.arith rfl rfl rfl ?_
        | refine R.pickT rfl rfl ?_
        | refine R.pickF rfl rfl ?_
        | refine R.len rfl ?_
        | refine R.lenA rfl ?_
        | refine R.lenStr rfl ?_
        | refine S.convIU rfl (by omega) ?_
        | refine S.convUI rfl (by omega) ?_
        | refine R.convInt rfl ?_
        | refine R.not rfl ?_
        | refine R.eqPtrNil rfl rfl ?_
        | refine R.extract rfl rfl ?_
        | refine R.field rfl rfl ?_
        | refine R.alloc rfl (fun b hb => ?_)
        | refine R.box rfl rfl rfl (fun b hb => ?_)
        | refine R.build rfl rfl ?_
        | refine R.buildSl rfl rfl rfl (by decide) ?_
        | refine R.toStr rfl ?_
        | refine R.convStr rfl ?_
        | refine R.minmax rfl ?_
        | refine R.makeFunc rfl rfl ?_
        | (first | refine S.lss rfl rfl (fun hlt => ?_) (fun hlt => by exfalso; omega) | refine S.lss rfl rfl (fun hlt => by exfalso; omega) (fun hlt => ?_) | refine S.lss rfl rfl (fun hlt => ?_) (fun hlt => ?_))
        | (first | refine S.gtr rfl rfl (fun hlt => ?_) (fun hlt => by exfalso; omega) | refine S.gtr rfl rfl (fun hlt => by exfalso; omega) (fun hlt => ?_) | refine S.gtr rfl rfl (fun hlt => ?_) (fun hlt => ?_))
        | (first | refine S.leq rfl rfl (fun hlt => ?_) (fun hlt => by exfalso; omega) | refine S.leq rfl rfl (fun hlt => by exfalso; omega) (fun hlt => ?_) | refine S.leq rfl rfl (fun hlt => ?_) (fun hlt => ?_))
        | (first | refine S.geq rfl rfl (fun hlt => ?_) (fun hlt => by exfalso; omega) | refine S.geq rfl rfl (fun hlt => by exfalso; omega) (fun hlt => ?_) | refine S.geq rfl rfl (fun hlt => ?_) (fun hlt => ?_))
        | (first | refine S.eqInt rfl rfl (fun hlt => ?_) (fun hlt => by exfalso; omega) | refine S.eqInt rfl rfl (fun hlt => by exfalso; omega) (fun hlt => ?_) | refine S.eqInt rfl rfl (fun hlt => ?_) (fun hlt => ?_)))
      | (refine S.op0 rfl ?_; first | refine S.storeS rfl rfl rfl (by rfl) rfl (by first | decide | exact Nat.le_refl _ | exact Nat.le_of_ble_eq_true rfl) ?_ | refine S.store rfl rfl (by (repeat' (first | assumption | exact AHeap.set_same _ _ _ | refine AHeap.get_fresh (by assumption) ?_ | refine AHeap.so ?_ ?_ | exact AHeap.n1 (by assumption) | exact AHeap.n2 (by assumption) | exact AHeap.ne_of (by assumption) (by assumption) | exact AHeap.n4 (by assumption) (by assumption) | exact AHeap.n5 (by assumption) | exact AHeap.n6 (by assumption) | exact AHeap.n7 (by assumption) (by assumption) | exact AHeap.n8 (by assumption) (by assumption))); first | done | fail) rfl rfl rfl (by rfl) rfl ?_)
      | refine S.skip rfl ?_
      | refine S.skip0 rfl ?_
      | refine S.seq ?_
      | refine S.region ?_
      | refine S.regionT ?_
      | refine S.tstep ?_
      | refine S.talt ?_ ?_
      | exact S.tstop
      | refine S.tdone ?_
      | refine S.condT rfl ?_
      | refine S.condF rfl ?_
      | refine RRun.skip ?_
      | refine RRun.block ?_
      | refine RRun.inBlock ?_
      | refine RRun.exit rfl ?_)
    apply S.ret rr32
    case hx => repeat (first | exact ResAt.nil | apply ResAt.tmp rfl | apply ResAt.cellA rfl (by (repeat' (first | assumption | exact AHeap.set_same _ _ _ | refine AHeap.get_fresh (by assumption) ?_ | refine AHeap.so ?_ ?_ | exact AHeap.n1 (by assumption) | exact AHeap.n2 (by assumption) | exact AHeap.ne_of (by assumption) (by assumption) | exact AHeap.n4 (by assumption) (by assumption) | exact AHeap.n5 (by assumption) | exact AHeap.n6 (by assumption) | exact AHeap.n7 (by assumption) (by assumption) | exact AHeap.n8 (by assumption) (by assumption))); first | done | fail) (by rfl) | apply ResAt.cell1 rfl (by (repeat' (first | assumption | exact AHeap.set_same _ _ _ | refine AHeap.get_fresh (by assumption) ?_ | refine AHeap.so ?_ ?_ | exact AHeap.n1 (by assumption) | exact AHeap.n2 (by assumption) | exact AHeap.ne_of (by assumption) (by assumption) | exact AHeap.n4 (by assumption) (by assumption) | exact AHeap.n5 (by assumption) | exact AHeap.n6 (by assumption) | exact AHeap.n7 (by assumption) (by assumption) | exact AHeap.n8 (by assumption) (by assumption))); first | done | fail) (by rfl))
    exact ⟨rfl, rfl⟩

end Go.Proofs.Ytcjcmegkfplnkaa
