/-
  sorting rows only puts them in another order, and none behind a greater one: for every input
-/
import Derived.Test.YthadifboeggnpaaOP22
import Derived.Test.YthadifboeggnpaaOP17
import Derived.Test.YthadifboeggnpaaRows
import Derived.Test.YthadifboeggnpaaOP23
import Derived.Test.YthadifboeggnpaaOP24
import Derived.Test.YthadifboeggnpaaOP25
import Derived.Test.YthadifboeggnpaaOP19
import Derived.Test.YthadifboeggnpaaOP26
set_option linter.unusedVariables false
set_option linter.unusedSimpArgs false
namespace Go.Proofs.Ythadifboeggnpaa
open Go.Av
structure Val where
  kind : Int
  n : Int
  s : List UInt8
  deriving DecidableEq
def Val.cells (v : Val) : List AV := [i64 v.kind, i64 v.n, str v.s]
abbrev vz : Val := ⟨0, 0, []⟩
def Val.ok (v : Val) : Prop := Fits v.kind ∧ Fits v.n
def cmpI (a b : Int) : Int := if a < b then -1 else if b < a then 1 else 0
def ordV (a b : Val) : Int := if a.kind = b.kind then (if a.kind = 1 then cmpI a.n b.n else if a.kind = 2 then Lib.compareBytes a.s b.s else 0) else cmpI a.kind b.kind
theorem bl_eq {a b : Bool} (h : a = b) : bl a = bl b := by rw [h]
def r54 : RCode :=
  (.seq (.region [
    ⟨(some 2), none, .act, .mv (.const (.bool false))⟩])
  (.seq (.region [
    ⟨(some 3), none, .act, .mv (.tmp 0)⟩,
    ⟨(some 4), none, .act, .mv (.tmp 0)⟩,
    ⟨(some 5), none, .act, .eq true .int (.tmp 3) (.tmp 4)⟩,
    ⟨(some 2), none, .act, .mv (.tmp 5)⟩])
  .ret))
theorem res54 : ∃ c, Try.f54.body = some c ∧ resCode Try.prog 6 c = some r54 := ⟨_, rfl, by kernel_rfl⟩
theorem rr54 : resRes Try.prog Try.f54.results.toList = some [.tmp 2] := by kernel_rfl
theorem nan_spec (n : Int) (h : AHeap) : ACalls Try.prog 54 [i64 n] h (fun x h' => x = bl false ∧ h' = h) := by
  obtain ⟨c', hc1, hc2⟩ := res54
  refine ACalls.enter Try.func54 hc1 Try.ntmps54 hc2 (Nat.le_of_ble_eq_true rfl) rfl ?_
  repeat' (first | refine S.nilK ?_ | (refine S.op rfl ?_; first | refine S.eqIntSame rfl rfl ?_ | refine R.mv rfl ?_) | refine S.seq ?_ | refine S.region ?_)
  apply S.ret rr54
  case hx => repeat (first | exact ResAt.nil | apply ResAt.tmp rfl)
  exact ⟨rfl, rfl⟩
def r62 : RCode :=
  (.seq (.region [
    ⟨(some 2), none, .act, .mv (.const (.bool false))⟩])
  (.seq (.region [
    ⟨(some 3), none, .act, .mv (.tmp 0)⟩,
    ⟨(some 4), none, .act, .mv (.tmp 0)⟩,
    ⟨(some 5), none, .act, .eq true .int (.tmp 3) (.tmp 4)⟩,
    ⟨(some 2), none, .act, .mv (.tmp 5)⟩])
  .ret))
theorem res62 : ∃ c, Try.f62.body = some c ∧ resCode Try.prog 6 c = some r62 := ⟨_, rfl, by kernel_rfl⟩
theorem rr62 : resRes Try.prog Try.f62.results.toList = some [.tmp 2] := by kernel_rfl
theorem nan64_spec (n : Int) (h : AHeap) : ACalls Try.prog 62 [i64 n] h (fun x h' => x = bl false ∧ h' = h) := by
  obtain ⟨c', hc1, hc2⟩ := res62
  refine ACalls.enter Try.func62 hc1 Try.ntmps62 hc2 (Nat.le_of_ble_eq_true rfl) rfl ?_
  repeat' (first | refine S.nilK ?_ | (refine S.op rfl ?_; first | refine S.eqIntSame rfl rfl ?_ | refine R.mv rfl ?_) | refine S.seq ?_ | refine S.region ?_)
  apply S.ret rr62
  case hx => repeat (first | exact ResAt.nil | apply ResAt.tmp rfl)
  exact ⟨rfl, rfl⟩
def r39 : RCode :=
  (.seq (.region [
    ⟨(some 4), none, .act, .mv (.const (.int .i64 0))⟩])
  (.seq (.region [
    ⟨(some 7), none, .act, .mv (.tmp 0)⟩,
    ⟨(some 8), none, .act, .call 54 [(.tmp 7)]⟩,
    ⟨(some 5), none, .act, .mv (.tmp 8)⟩])
  (.seq (.region [
    ⟨(some 9), none, .act, .mv (.tmp 1)⟩,
    ⟨(some 10), none, .act, .call 54 [(.tmp 9)]⟩,
    ⟨(some 6), none, .act, .mv (.tmp 10)⟩])
  (.seq (.seq (.region [
    ⟨(some 11), none, .act, .mv (.tmp 5)⟩])
  (.cond (.tmp 11)
   (.seq (.seq (.region [
     ⟨(some 12), none, .act, .mv (.tmp 6)⟩])
   (.cond (.tmp 12)
    (.seq (.region [
      ⟨(some 4), none, .act, .mv (.const (.int .i64 0))⟩])
    .ret)
    .skip))
   (.seq (.region [
     ⟨(some 4), none, .act, .mv (.const (.int .i64 (-1)))⟩])
   .ret))
   .skip))
  (.seq (.seq (.region [
    ⟨(some 13), none, .act, .mv (.tmp 6)⟩])
  (.cond (.tmp 13)
   (.seq (.region [
     ⟨(some 4), none, .act, .mv (.const (.int .i64 1))⟩])
   .ret)
   .skip))
  (.seq (.seq (.region [
    ⟨(some 14), none, .act, .mv (.tmp 0)⟩,
    ⟨(some 15), none, .act, .mv (.tmp 1)⟩,
    ⟨(some 16), none, .act, .bin .lss (.tmp 14) (.tmp 15)⟩])
  (.cond (.tmp 16)
   (.seq (.region [
     ⟨(some 4), none, .act, .mv (.const (.int .i64 (-1)))⟩])
   .ret)
   .skip))
  (.seq (.seq (.region [
    ⟨(some 17), none, .act, .mv (.tmp 0)⟩,
    ⟨(some 18), none, .act, .mv (.tmp 1)⟩,
    ⟨(some 19), none, .act, .bin .gtr (.tmp 17) (.tmp 18)⟩])
  (.cond (.tmp 19)
   (.seq (.region [
     ⟨(some 4), none, .act, .mv (.const (.int .i64 1))⟩])
   .ret)
   .skip))
  (.seq (.region [
    ⟨(some 4), none, .act, .mv (.const (.int .i64 0))⟩])
  .ret))))))))
theorem res39 : ∃ c, Try.f39.body = some c ∧ resCode Try.prog 20 c = some r39 := ⟨_, rfl, by kernel_rfl⟩
theorem rr39 : resRes Try.prog Try.f39.results.toList = some [.tmp 4] := by kernel_rfl
theorem cmpInt_spec (a b : Int) (h : AHeap) : ACalls Try.prog 39 [i64 a, i64 b] h (fun x h' => x = i64 (cmpI a b) ∧ h' = h) := by
  obtain ⟨c', hc1, hc2⟩ := res39
  refine ACalls.enter Try.func39 hc1 Try.ntmps39 hc2 (Nat.le_of_ble_eq_true rfl) rfl ?_
  repeat' (first | refine S.nilK ?_ | (refine S.op rfl ?_; first | refine callS rfl rfl (nan_spec _ _) ?_ | refine R.mv rfl ?_ | ((first | refine S.lss rfl rfl ?_ ?_ | refine S.gtr rfl rfl ?_ ?_) <;> intro hlt <;> try (exfalso; omega))) | refine S.seq ?_ | refine S.region ?_ | refine S.condT rfl ?_ | refine S.condF rfl ?_ | refine RRun.skip ?_)
  all_goals
    apply S.ret rr39
    case hx => repeat (first | exact ResAt.nil | apply ResAt.tmp rfl)
    exact ⟨congrArg i64 (Eq.symm (by unfold cmpI; repeat' (first | rfl | refine (if_pos (by omega)).trans ?_ | refine (if_neg (by omega)).trans ?_))), rfl⟩
def r52 : RCode :=
  (.seq (.region [
    ⟨(some 4), none, .act, .mv (.const (.int .i64 0))⟩])
  (.seq (.region [
    ⟨(some 7), none, .act, .mv (.tmp 0)⟩,
    ⟨(some 8), none, .act, .call 62 [(.tmp 7)]⟩,
    ⟨(some 5), none, .act, .mv (.tmp 8)⟩])
  (.seq (.region [
    ⟨(some 9), none, .act, .mv (.tmp 1)⟩,
    ⟨(some 10), none, .act, .call 62 [(.tmp 9)]⟩,
    ⟨(some 6), none, .act, .mv (.tmp 10)⟩])
  (.seq (.seq (.region [
    ⟨(some 11), none, .act, .mv (.tmp 5)⟩])
  (.cond (.tmp 11)
   (.seq (.seq (.region [
     ⟨(some 12), none, .act, .mv (.tmp 6)⟩])
   (.cond (.tmp 12)
    (.seq (.region [
      ⟨(some 4), none, .act, .mv (.const (.int .i64 0))⟩])
    .ret)
    .skip))
   (.seq (.region [
     ⟨(some 4), none, .act, .mv (.const (.int .i64 (-1)))⟩])
   .ret))
   .skip))
  (.seq (.seq (.region [
    ⟨(some 13), none, .act, .mv (.tmp 6)⟩])
  (.cond (.tmp 13)
   (.seq (.region [
     ⟨(some 4), none, .act, .mv (.const (.int .i64 1))⟩])
   .ret)
   .skip))
  (.seq (.seq (.region [
    ⟨(some 14), none, .act, .mv (.tmp 0)⟩,
    ⟨(some 15), none, .act, .mv (.tmp 1)⟩,
    ⟨(some 16), none, .act, .bin .lss (.tmp 14) (.tmp 15)⟩])
  (.cond (.tmp 16)
   (.seq (.region [
     ⟨(some 4), none, .act, .mv (.const (.int .i64 (-1)))⟩])
   .ret)
   .skip))
  (.seq (.seq (.region [
    ⟨(some 17), none, .act, .mv (.tmp 0)⟩,
    ⟨(some 18), none, .act, .mv (.tmp 1)⟩,
    ⟨(some 19), none, .act, .bin .gtr (.tmp 17) (.tmp 18)⟩])
  (.cond (.tmp 19)
   (.seq (.region [
     ⟨(some 4), none, .act, .mv (.const (.int .i64 1))⟩])
   .ret)
   .skip))
  (.seq (.region [
    ⟨(some 4), none, .act, .mv (.const (.int .i64 0))⟩])
  .ret))))))))
theorem res52 : ∃ c, Try.f52.body = some c ∧ resCode Try.prog 20 c = some r52 := ⟨_, rfl, by kernel_rfl⟩
theorem rr52 : resRes Try.prog Try.f52.results.toList = some [.tmp 4] := by kernel_rfl
theorem cmpInt64_spec (a b : Int) (h : AHeap) : ACalls Try.prog 52 [i64 a, i64 b] h (fun x h' => x = i64 (cmpI a b) ∧ h' = h) := by
  obtain ⟨c', hc1, hc2⟩ := res52
  refine ACalls.enter Try.func52 hc1 Try.ntmps52 hc2 (Nat.le_of_ble_eq_true rfl) rfl ?_
  repeat' (first | refine S.nilK ?_ | (refine S.op rfl ?_; first | refine callS rfl rfl (nan64_spec _ _) ?_ | refine R.mv rfl ?_ | ((first | refine S.lss rfl rfl ?_ ?_ | refine S.gtr rfl rfl ?_ ?_) <;> intro hlt <;> try (exfalso; omega))) | refine S.seq ?_ | refine S.region ?_ | refine S.condT rfl ?_ | refine S.condF rfl ?_ | refine RRun.skip ?_)
  all_goals
    apply S.ret rr52
    case hx => repeat (first | exact ResAt.nil | apply ResAt.tmp rfl)
    exact ⟨congrArg i64 (Eq.symm (by unfold cmpI; repeat' (first | rfl | refine (if_pos (by omega)).trans ?_ | refine (if_neg (by omega)).trans ?_))), rfl⟩
def r63 : RCode :=
  (.seq (.region [
    ⟨(some 4), none, .act, .mv (.const (.int .i64 0))⟩])
  (.seq (.region [
    ⟨(some 5), none, .act, .mv (.tmp 0)⟩,
    ⟨(some 6), none, .act, .mv (.tmp 1)⟩,
    ⟨(some 7), none, .act, .cmpStr (.tmp 5) (.tmp 6)⟩,
    ⟨(some 4), none, .act, .mv (.tmp 7)⟩])
  .ret))
theorem res63 : ∃ c, Try.f63.body = some c ∧ resCode Try.prog 8 c = some r63 := ⟨_, rfl, by kernel_rfl⟩
theorem rr63 : resRes Try.prog Try.f63.results.toList = some [.tmp 4] := by kernel_rfl
theorem cmpStr_spec (a b : List UInt8) (h : AHeap) : ACalls Try.prog 63 [str a, str b] h (fun x h' => x = i64 (Lib.compareBytes a b) ∧ h' = h) := by
  obtain ⟨c', hc1, hc2⟩ := res63
  refine ACalls.enter Try.func63 hc1 Try.ntmps63 hc2 (Nat.le_of_ble_eq_true rfl) rfl ?_
  repeat' (first | refine S.nilK ?_ | (refine S.op rfl ?_; first | refine R.cmpStr rfl rfl ?_ | refine R.mv rfl ?_) | refine S.seq ?_ | refine S.region ?_)
  apply S.ret rr63
  case hx => repeat (first | exact ResAt.nil | apply ResAt.tmp rfl)
  exact ⟨by simp [packAV], rfl⟩
def r53 : RCode :=
  (.seq (.region [
    ⟨(some 4), none, .act, .mv (.const (.int .i64 0))⟩])
  (.seq (.region [
    ⟨(some 5), none, .act, .mv (.tmp 0)⟩,
    ⟨(some 6), none, .act, .mv (.tmp 1)⟩,
    ⟨(some 7), none, .act, .call 63 [(.tmp 5), (.tmp 6)]⟩,
    ⟨(some 4), none, .act, .mv (.tmp 7)⟩])
  .ret))
theorem res53 : ∃ c, Try.f53.body = some c ∧ resCode Try.prog 8 c = some r53 := ⟨_, rfl, by kernel_rfl⟩
theorem rr53 : resRes Try.prog Try.f53.results.toList = some [.tmp 4] := by kernel_rfl
theorem strCmp_spec (a b : List UInt8) (h : AHeap) : ACalls Try.prog 53 [str a, str b] h (fun x h' => x = i64 (Lib.compareBytes a b) ∧ h' = h) := by
  obtain ⟨c', hc1, hc2⟩ := res53
  refine ACalls.enter Try.func53 hc1 Try.ntmps53 hc2 (Nat.le_of_ble_eq_true rfl) rfl ?_
  repeat' (first | refine S.nilK ?_ | (refine S.op rfl ?_; first | refine callS rfl rfl (cmpStr_spec _ _ _) ?_ | refine R.mv rfl ?_) | refine S.seq ?_ | refine S.region ?_)
  apply S.ret rr53
  case hx => repeat (first | exact ResAt.nil | apply ResAt.tmp rfl)
  exact ⟨rfl, rfl⟩
def r38 : RCode :=
  (.seq (.region [
    ⟨(some 2), none, .act, .box (.tmp 0)⟩,
    ⟨(some 3), none, .act, .box (.tmp 1)⟩,
    ⟨(some 4), none, .act, .mv (.const (.int .i64 0))⟩])
  (.seq (.seq (.region [
    ⟨(some 5), none, .act, .fieldAddr 0 (.tmp 2)⟩,
    ⟨(some 6), none, .act, .load false 1 (.tmp 5)⟩,
    ⟨(some 7), none, .act, .fieldAddr 0 (.tmp 3)⟩,
    ⟨(some 8), none, .act, .load false 1 (.tmp 7)⟩,
    ⟨(some 9), none, .act, .eq true .int (.tmp 6) (.tmp 8)⟩])
  (.cond (.tmp 9)
   (.seq (.region [
     ⟨(some 10), none, .act, .fieldAddr 0 (.tmp 2)⟩,
     ⟨(some 11), none, .act, .load false 1 (.tmp 10)⟩,
     ⟨(some 12), none, .act, .fieldAddr 0 (.tmp 3)⟩,
     ⟨(some 13), none, .act, .load false 1 (.tmp 12)⟩,
     ⟨(some 14), none, .act, .call 39 [(.tmp 11), (.tmp 13)]⟩,
     ⟨(some 4), none, .act, .mv (.tmp 14)⟩])
   .ret)
   .skip))
  (.seq (.seq (.region [
    ⟨(some 15), none, .act, .fieldAddr 0 (.tmp 2)⟩,
    ⟨(some 16), none, .act, .load false 1 (.tmp 15)⟩])
  (.block 0
   (.seq (.region [
     ⟨(some 18), none, .act, .eq false .int (.tmp 16) (.const (.int .i64 1))⟩,
     ⟨(some 17), none, .act, .mv (.tmp 18)⟩])
   (.cond (.tmp 17)
    (.seq (.region [
      ⟨(some 19), none, .act, .fieldAddr 1 (.tmp 2)⟩,
      ⟨(some 20), none, .act, .load false 1 (.tmp 19)⟩,
      ⟨(some 21), none, .act, .fieldAddr 1 (.tmp 3)⟩,
      ⟨(some 22), none, .act, .load false 1 (.tmp 21)⟩,
      ⟨(some 23), none, .act, .call 52 [(.tmp 20), (.tmp 22)]⟩,
      ⟨(some 4), none, .act, .mv (.tmp 23)⟩])
    .ret)
    (.seq (.region [
      ⟨(some 25), none, .act, .eq false .int (.tmp 16) (.const (.int .i64 2))⟩,
      ⟨(some 24), none, .act, .mv (.tmp 25)⟩])
    (.cond (.tmp 24)
     (.seq (.region [
       ⟨(some 26), none, .act, .fieldAddr 2 (.tmp 2)⟩,
       ⟨(some 27), none, .act, .load false 1 (.tmp 26)⟩,
       ⟨(some 28), none, .act, .fieldAddr 2 (.tmp 3)⟩,
       ⟨(some 29), none, .act, .load false 1 (.tmp 28)⟩,
       ⟨(some 30), none, .act, .call 53 [(.tmp 27), (.tmp 29)]⟩,
       ⟨(some 4), none, .act, .mv (.tmp 30)⟩])
     .ret)
     .skip))))))
  (.seq (.region [
    ⟨(some 4), none, .act, .mv (.const (.int .i64 0))⟩])
  .ret))))
theorem res38 : ∃ c, Try.f38.body = some c ∧ resCode Try.prog 31 c = some r38 := ⟨_, rfl, by kernel_rfl⟩
theorem rr38 : resRes Try.prog Try.f38.results.toList = some [.tmp 4] := by kernel_rfl
theorem order_spec (a b : Val) (h : AHeap) : ACalls Try.prog 38 [.ag a.cells, .ag b.cells] h (fun x h' => x = i64 (ordV a b) ∧ h' = h) := by
  obtain ⟨c', hc1, hc2⟩ := res38
  refine ACalls.weak (ACalls.enter Try.func38 hc1 Try.ntmps38 hc2 (Nat.le_of_ble_eq_true rfl) rfl ?_)
  obtain ⟨ak, an, sa⟩ := a
  obtain ⟨bk, bn, bs⟩ := b
  rw [show Val.cells ⟨ak, an, sa⟩ = [i64 ak, i64 an, str sa] from rfl, show Val.cells ⟨bk, bn, bs⟩ = [i64 bk, i64 bn, str bs] from rfl]
  repeat' (first | refine S.nilK ?_ | (refine S.op rfl ?_; first | refine callS rfl rfl (cmpInt_spec _ _ _) ?_ | refine callS rfl rfl (cmpInt64_spec _ _ _) ?_ | refine callS rfl rfl (strCmp_spec _ _ _) ?_ | refine R.mv rfl ?_ | refine R.fieldAddr rfl ?_ | refine R.load (by decide) rfl (by (repeat' (first | exact AHeap.set_same _ _ _ | refine AHeap.get_fresh ‹_› ?_)); first | done | fail) rfl ?_ | refine R.box rfl rfl rfl (fun b hb => ?_) | ((first | refine S.eqInt rfl rfl ?_ ?_) <;> intro hlt <;> try (exfalso; omega))) | refine S.seq ?_ | refine S.region ?_ | refine S.condT rfl ?_ | refine S.condF rfl ?_ | refine RRun.skip ?_ | refine RRun.block ?_ | refine RRun.inBlock ?_)
  all_goals
    apply S.ret rr38
    case hx => repeat (first | exact ResAt.nil | apply ResAt.tmp rfl)
    exact ⟨_, h, .refl _, (by repeat (first | exact AHeap.le.refl _ | refine AHeap.le.set ?_ _ (by (repeat' (first | assumption | exact AHeap.z1 ‹_›)); first | done | fail))), congrArg i64 (Eq.symm (by unfold ordV; simp only; repeat' (first | rfl | refine (if_pos (by omega)).trans ?_ | refine (if_neg (by omega)).trans ?_))), rfl⟩
def parts (op : Int) : Int :=
  if op = 1 ∨ op = 2 ∨ op = 3 ∨ op = 20 then 0 else if op = 4 ∨ op = 16 ∨ op = 19 ∨ (21 ≤ op ∧ op ≤ 23) then 1 else if 5 ≤ op ∧ op ≤ 18 then 2 else -1
def sums (op : Int) : Bool := decide (20 ≤ op ∧ op ≤ 23)
def r43 : RCode :=
  (.seq (.region [
    ⟨(some 2), none, .act, .mv (.const (.int .i64 0))⟩])
  (.seq (.block 0
   (.seq (.seq (.region [
     ⟨(some 4), none, .act, .mv (.tmp 0)⟩,
     ⟨(some 5), none, .act, .eq false .int (.tmp 4) (.const (.int .i64 1))⟩,
     ⟨(some 3), none, .act, .mv (.tmp 5)⟩])
   (.cond (.tmp 3)
    .skip
    (.seq (.region [
      ⟨(some 6), none, .act, .mv (.tmp 0)⟩,
      ⟨(some 7), none, .act, .eq false .int (.tmp 6) (.const (.int .i64 2))⟩,
      ⟨(some 3), none, .act, .mv (.tmp 7)⟩])
    (.cond (.tmp 3)
     .skip
     (.seq (.region [
       ⟨(some 8), none, .act, .mv (.tmp 0)⟩,
       ⟨(some 9), none, .act, .eq false .int (.tmp 8) (.const (.int .i64 3))⟩,
       ⟨(some 3), none, .act, .mv (.tmp 9)⟩])
     (.cond (.tmp 3)
      .skip
      (.region [
        ⟨(some 10), none, .act, .mv (.tmp 0)⟩,
        ⟨(some 11), none, .act, .eq false .int (.tmp 10) (.const (.int .i64 20))⟩,
        ⟨(some 3), none, .act, .mv (.tmp 11)⟩])))))))
   (.cond (.tmp 3)
    (.seq (.region [
      ⟨(some 2), none, .act, .mv (.const (.int .i64 0))⟩])
    .ret)
    (.seq (.seq (.region [
      ⟨(some 13), none, .act, .mv (.tmp 0)⟩,
      ⟨(some 14), none, .act, .eq false .int (.tmp 13) (.const (.int .i64 4))⟩,
      ⟨(some 12), none, .act, .mv (.tmp 14)⟩])
    (.cond (.tmp 12)
     .skip
     (.seq (.region [
       ⟨(some 15), none, .act, .mv (.tmp 0)⟩,
       ⟨(some 16), none, .act, .eq false .int (.tmp 15) (.const (.int .i64 16))⟩,
       ⟨(some 12), none, .act, .mv (.tmp 16)⟩])
     (.cond (.tmp 12)
      .skip
      (.seq (.region [
        ⟨(some 17), none, .act, .mv (.tmp 0)⟩,
        ⟨(some 18), none, .act, .eq false .int (.tmp 17) (.const (.int .i64 19))⟩,
        ⟨(some 12), none, .act, .mv (.tmp 18)⟩])
      (.cond (.tmp 12)
       .skip
       (.region [
         ⟨(some 19), none, .act, .mv (.tmp 0)⟩,
         ⟨(some 20), none, .act, .bin .geq (.tmp 19) (.const (.int .i64 21))⟩,
         ⟨(some 21), none, .act, .mv (.tmp 20)⟩,
         ⟨(some 22), (some (21, true)), .act, .mv (.tmp 0)⟩,
         ⟨(some 23), (some (21, true)), .act, .bin .leq (.tmp 22) (.const (.int .i64 23))⟩,
         ⟨(some 24), none, .act, .pick (.tmp 21) (.tmp 23) (.const (.bool false))⟩,
         ⟨(some 12), none, .act, .mv (.tmp 24)⟩])))))))
    (.cond (.tmp 12)
     (.seq (.region [
       ⟨(some 2), none, .act, .mv (.const (.int .i64 1))⟩])
     .ret)
     (.seq (.region [
       ⟨(some 26), none, .act, .mv (.tmp 0)⟩,
       ⟨(some 27), none, .act, .bin .geq (.tmp 26) (.const (.int .i64 5))⟩,
       ⟨(some 28), none, .act, .mv (.tmp 27)⟩,
       ⟨(some 29), (some (28, true)), .act, .mv (.tmp 0)⟩,
       ⟨(some 30), (some (28, true)), .act, .bin .leq (.tmp 29) (.const (.int .i64 18))⟩,
       ⟨(some 31), none, .act, .pick (.tmp 28) (.tmp 30) (.const (.bool false))⟩,
       ⟨(some 25), none, .act, .mv (.tmp 31)⟩])
     (.cond (.tmp 25)
      (.seq (.region [
        ⟨(some 2), none, .act, .mv (.const (.int .i64 2))⟩])
      .ret)
      .skip)))))))
  (.seq (.region [
    ⟨(some 2), none, .act, .mv (.const (.int .i64 (-1)))⟩])
  .ret)))
theorem res43 : ∃ c, Try.f43.body = some c ∧ resCode Try.prog 32 c = some r43 := ⟨_, rfl, by kernel_rfl⟩
theorem rr43 : resRes Try.prog Try.f43.results.toList = some [.tmp 2] := by kernel_rfl
theorem parts_spec (op : Int) (h : AHeap) : ACalls Try.prog 43 [i64 op] h (fun x h' => x = i64 (parts op) ∧ h' = h) := by
  obtain ⟨c', hc1, hc2⟩ := res43
  refine ACalls.enter Try.func43 hc1 Try.ntmps43 hc2 (Nat.le_of_ble_eq_true rfl) rfl ?_
  repeat' (first | refine S.nilK ?_ | (refine S.op rfl ?_; first | refine R.mv rfl ?_ | refine R.pickT rfl rfl ?_ | refine R.pickF rfl rfl ?_ | ((first | refine S.leq rfl rfl ?_ ?_ | refine S.geq rfl rfl ?_ ?_ | refine S.eqInt rfl rfl ?_ ?_) <;> intro hlt <;> try (exfalso; omega))) | refine S.skip rfl ?_ | refine S.seq ?_ | refine S.region ?_ | refine S.condT rfl ?_ | refine S.condF rfl ?_ | refine RRun.skip ?_ | refine RRun.block ?_ | refine RRun.inBlock ?_)
  all_goals
    apply S.ret rr43
    case hx => repeat (first | exact ResAt.nil | apply ResAt.tmp rfl)
    exact ⟨congrArg i64 (Eq.symm (by unfold parts; repeat' (first | rfl | refine (if_pos (by omega)).trans ?_ | refine (if_neg (by omega)).trans ?_))), rfl⟩
def r44 : RCode :=
  (.seq (.region [
    ⟨(some 2), none, .act, .mv (.const (.bool false))⟩])
  (.seq (.region [
    ⟨(some 3), none, .act, .mv (.tmp 0)⟩,
    ⟨(some 4), none, .act, .bin .geq (.tmp 3) (.const (.int .i64 20))⟩,
    ⟨(some 5), none, .act, .mv (.tmp 4)⟩,
    ⟨(some 6), (some (5, true)), .act, .mv (.tmp 0)⟩,
    ⟨(some 7), (some (5, true)), .act, .bin .leq (.tmp 6) (.const (.int .i64 23))⟩,
    ⟨(some 8), none, .act, .pick (.tmp 5) (.tmp 7) (.const (.bool false))⟩,
    ⟨(some 2), none, .act, .mv (.tmp 8)⟩])
  .ret))
theorem res44 : ∃ c, Try.f44.body = some c ∧ resCode Try.prog 9 c = some r44 := ⟨_, rfl, by kernel_rfl⟩
theorem rr44 : resRes Try.prog Try.f44.results.toList = some [.tmp 2] := by kernel_rfl
theorem sums_spec (op : Int) (h : AHeap) : ACalls Try.prog 44 [i64 op] h (fun x h' => x = bl (sums op) ∧ h' = h) := by
  obtain ⟨c', hc1, hc2⟩ := res44
  refine ACalls.enter Try.func44 hc1 Try.ntmps44 hc2 (Nat.le_of_ble_eq_true rfl) rfl ?_
  repeat' (first | refine S.nilK ?_ | (refine S.op rfl ?_; first | refine R.mv rfl ?_ | refine R.pickT rfl rfl ?_ | refine R.pickF rfl rfl ?_ | ((first | refine S.leq rfl rfl ?_ ?_ | refine S.geq rfl rfl ?_ ?_) <;> intro hlt <;> try (exfalso; omega))) | refine S.skip rfl ?_ | refine S.seq ?_ | refine S.region ?_)
  all_goals
    apply S.ret rr44
    case hx => repeat (first | exact ResAt.nil | apply ResAt.tmp rfl)
    exact ⟨bl_eq (by unfold sums; first | exact (decide_eq_true (by omega)).symm | exact (decide_eq_false (by omega)).symm), rfl⟩
end Go.Proofs.Ythadifboeggnpaa

namespace Go.Proofs.Ythadifboeggnpaa
open Go.Av
abbrev resA (p : Val × Int) : AV := .tu [.ag p.1.cells, i64 p.2]
end Go.Proofs.Ythadifboeggnpaa

namespace Go.Av
theorem S.drop {P : Program} {ro : Option Nat} {n : Nat} {k : List RT} {E : AEnv} {h h₀ : AHeap} {Q : Option Code → AEnv → AHeap → Prop} (hle : h₀.le h) (H : RRunG P ro n k E h₀ Q) : RRunG P ro n k E h Q :=
  RRun.weaken (fun _ _ h => h) (fun w hr => Rel.sub hle hr) H
end Go.Av
namespace Go.Proofs.Ythadifboeggnpaa
open Go.Av
inductive Ex where
  | mk (op : Int) (table name : List UInt8) (n : Int) (v : Val) (args : List Ex)
def Ex.op : Ex → Int | .mk o _ _ _ _ _ => o
def Ex.n : Ex → Int | .mk _ _ _ n _ _ => n
def Ex.v : Ex → Val | .mk _ _ _ _ v _ => v
def Ex.args : Ex → List Ex | .mk _ _ _ _ _ l => l
mutual
def Ex.cells : Ex → List AV
  | .mk op t nm n v args => [i64 op, str t, str nm, i64 n, i64 v.kind, i64 v.n, str v.s, .sl 8 (Ex.cellsL args) .ro]
def Ex.cellsL : List Ex → List (List AV)
  | [] => []
  | e :: l => Ex.cells e :: Ex.cellsL l
end
mutual
def Ex.ok : Ex → Prop
  | .mk op t nm n v args => Fits op ∧ Fits n ∧ v.ok ∧ args.length ≤ 9223372036854775807 ∧ Ex.okL args
def Ex.okL : List Ex → Prop
  | [] => True
  | e :: l => Ex.ok e ∧ Ex.okL l
end
abbrev exprs (l : List Ex) : AV := .sl 8 (l.map Ex.cells) .ro
abbrev Row := List Val
abbrev rowA (r : Row) : AV := .sl 3 (r.map Val.cells) .ro
abbrev rowsA (l : List Row) : AV := .sl 1 (l.map fun r => [rowA r]) .ro
def few (l : Row) : Bool := l.all (fun v => decide (v.s.length ≤ 100)) && decide (l.length ≤ 20)
def r21l0 : RCode :=
  (.seq (.region [
    ⟨(some 8), none, .act, .bin .lss (.tmp 7) (.tmp 6)⟩])
  (.seq (.cond (.tmp 8)
   .skip
   (.exit 0))
  (.seq (.block 1
   (.seq (.region [
     ⟨(some 9), none, .act, .indexAddr 3 (.tmp 5) (.tmp 7)⟩,
     ⟨(some 10), none, .act, .load true 3 (.tmp 9)⟩,
     ⟨(some 4), none, .act, .alloc [(.int .i64 0), (.int .i64 0), (.string ⟨#[]⟩)]⟩,
     ⟨none, none, .act, .store 3 (.tmp 4) (.tmp 10)⟩])
   (.seq (.region [
     ⟨(some 11), none, .act, .fieldAddr 2 (.tmp 4)⟩,
     ⟨(some 12), none, .act, .load false 1 (.tmp 11)⟩,
     ⟨(some 13), none, .act, .lenStr (.tmp 12)⟩,
     ⟨(some 14), none, .act, .bin .gtr (.tmp 13) (.const (.int .i64 100))⟩])
   (.cond (.tmp 14)
    (.seq (.region [
      ⟨(some 2), none, .act, .mv (.const (.bool false))⟩])
    .ret)
    .skip))))
  (.region [
    ⟨(some 15), none, .act, .bin .add (.tmp 7) (.const (.int .i64 1))⟩,
    ⟨(some 7), none, .act, .mv (.tmp 15)⟩]))))
def r21 : RCode :=
  (.seq (.region [
    ⟨(some 2), none, .act, .mv (.const (.bool false))⟩])
  (.seq (.seq (.region [
    ⟨(some 5), none, .act, .mv (.tmp 0)⟩,
    ⟨(some 6), none, .act, .len (.tmp 5)⟩,
    ⟨(some 7), none, .act, .mv (.const (.int .i64 0))⟩])
  (.block 0
   (.loop r21l0)))
  (.seq (.region [
    ⟨(some 16), none, .act, .mv (.tmp 0)⟩,
    ⟨(some 17), none, .act, .len (.tmp 16)⟩,
    ⟨(some 18), none, .act, .bin .leq (.tmp 17) (.const (.int .i64 20))⟩,
    ⟨(some 2), none, .act, .mv (.tmp 18)⟩])
  .ret)))
theorem res21 : ∃ c, Try.f21.body = some c ∧ resCode Try.prog 19 c = some r21 := ⟨_, rfl, by kernel_rfl⟩
theorem rr21 : resRes Try.prog Try.f21.results.toList = some [.tmp 2] := by kernel_rfl
theorem few_loop (l : Row) (hl : l.length ≤ 9223372036854775807) (h : AHeap) (k : List RT) (Q : AV → AHeap → Prop) (x0 : AV)
    (hk : l.all (fun v => decide (v.s.length ≤ 100)) = true → RRun Try.prog Try.f21 19 k (Env.get [(0, rowA l)]) h Q) (hf : few l = false → ∀ h', h.le h' → Q (bl false) h') : ∀ (m i : Nat), i + m = l.length → (l.take i).all (fun v => decide (v.s.length ≤ 100)) = true →
    RRun Try.prog Try.f21 19 (.inLoop r21l0 :: .inBlock 0 :: k) (Env.get [(0, rowA l), (5, rowA l), (6, i64 l.length), (7, i64 i)]) h Q := by
  intro m
  induction m with
  | zero =>
    intro i hi ht
    rw [List.take_of_length_le (by omega)] at ht
    refine RRun.inLoop ?_
    repeat' (first | refine S.nilK ?_ | (refine S.op rfl ?_; first | ((first | refine S.lss rfl rfl ?_ ?_) <;> intro hlt <;> try (exfalso; omega))) | refine S.seq ?_ | refine S.region ?_ | refine S.condF rfl ?_ | refine RRun.exit rfl ?_)
    exact S.keep [0] rfl (hk ht)
  | succ m ih =>
    intro i hi ht
    have hie : i < l.length := by omega
    have h1 : (l.map Val.cells)[((i : Nat) : Int).toNat]? = some [i64 l[i].kind, i64 l[i].n, str l[i].s] := by simp [hie]; rfl
    have hs : (l.take (i + 1)).all (fun v => decide (v.s.length ≤ 100)) = decide (l[i].s.length ≤ 100) := by
      rw [List.take_add_one, List.getElem?_eq_getElem hie, List.all_append, ht]; simp
    refine RRun.inLoop ?_
    by_cases hc : l[i].s.length ≤ 100
    ·
      repeat' (first | refine S.nilK ?_ | (refine S.op rfl ?_; first | refine R.indexAddr rfl rfl (by omega) h1 ?_ | refine S.lenS rfl ?_ | refine R.mv rfl ?_ | refine R.fieldAddr rfl ?_ | refine R.loadR rfl rfl ?_ | refine R.load (by decide) rfl (by (repeat' (first | exact AHeap.set_same _ _ _)); first | done | fail) rfl ?_ | refine S.addI rfl rfl (by omega) ?_ | refine R.alloc rfl (fun b hb => ?_) | ((first | refine S.lss rfl rfl ?_ ?_ | refine S.gtr rfl rfl ?_ ?_) <;> intro hlt <;> try (exfalso; omega))) | (refine S.op0 rfl ?_; first | refine S.storeS rfl rfl rfl (by rfl) rfl (by first | decide | exact Nat.le_refl _ | exact Nat.le_of_ble_eq_true rfl) ?_) | refine S.seq ?_ | refine S.region ?_ | refine S.condT rfl ?_ | refine S.condF rfl ?_ | refine RRun.skip ?_ | refine RRun.block ?_ | refine RRun.inBlock ?_)
      rw [show ((i : Int) + 1) = ((i + 1 : Nat) : Int) by omega]
      refine S.keep [0, 5, 6, 7] rfl (S.drop (by repeat (first | exact AHeap.le.refl _ | refine AHeap.le.set ?_ _ (by (repeat' (first | assumption)); first | done | fail))) (ih (i + 1) (by omega) (by rw [hs]; exact decide_eq_true hc)))
    ·
      repeat' (first | refine S.nilK ?_ | (refine S.op rfl ?_; first | refine R.indexAddr rfl rfl (by omega) h1 ?_ | refine S.lenS rfl ?_ | refine R.mv rfl ?_ | refine R.fieldAddr rfl ?_ | refine R.loadR rfl rfl ?_ | refine R.load (by decide) rfl (by (repeat' (first | exact AHeap.set_same _ _ _)); first | done | fail) rfl ?_ | refine R.alloc rfl (fun b hb => ?_) | ((first | refine S.lss rfl rfl ?_ ?_ | refine S.gtr rfl rfl ?_ ?_) <;> intro hlt <;> try (exfalso; omega))) | (refine S.op0 rfl ?_; first | refine S.storeS rfl rfl rfl (by rfl) rfl (by first | decide | exact Nat.le_refl _ | exact Nat.le_of_ble_eq_true rfl) ?_) | refine S.seq ?_ | refine S.region ?_ | refine S.condT rfl ?_ | refine RRun.skip ?_ | refine RRun.block ?_)
      apply S.ret rr21
      case hx => repeat (first | exact ResAt.nil | apply ResAt.tmp rfl)
      refine hf ?_ _ (by repeat (first | exact AHeap.le.refl _ | refine AHeap.le.set ?_ _ (by (repeat' (first | assumption)); first | done | fail)))
      unfold few
      have : l.all (fun v => decide (v.s.length ≤ 100)) = false := by
        rw [List.all_eq_false]
        exact ⟨_, List.getElem_mem hie, by simp; omega⟩
      rw [this]; rfl
theorem few_spec (l : Row) (hl : l.length ≤ 9223372036854775807) (h : AHeap) : ACalls Try.prog 21 [rowA l] h (fun x h' => x = bl (few l) ∧ h' = h) := by
  obtain ⟨c', hc1, hc2⟩ := res21
  refine ACalls.weak (ACalls.enter Try.func21 hc1 Try.ntmps21 hc2 (Nat.le_of_ble_eq_true rfl) rfl ?_)
  have hlen : (l.map Val.cells).length = l.length := by simp
  repeat' (first | refine S.nilK ?_ | (refine S.op rfl ?_; first | refine R.mv rfl ?_ | refine R.len rfl ?_) | refine S.seq ?_ | refine S.region ?_ | refine RRun.block ?_)
  rw [hlen]
  refine RRun.loopIn (S.keep [0, 5, 6, 7] rfl (few_loop l hl h _ _ (bl false) (fun ha => ?_) (fun hf h' hh => ⟨_, h, .refl _, hh, by rw [hf], rfl⟩) l.length 0 (by omega) rfl))
  repeat' (first | refine S.nilK ?_ | (refine S.op rfl ?_; first | refine R.mv rfl ?_ | refine R.len rfl ?_ | ((first | refine S.leq rfl rfl ?_ ?_) <;> intro hlt <;> try (exfalso; omega))) | refine S.seq ?_ | refine S.region ?_)
  all_goals
    apply S.ret rr21
    case hx => repeat (first | exact ResAt.nil | apply ResAt.tmp rfl)
    exact ⟨_, h, .refl _, (by repeat (first | exact AHeap.le.refl _)), bl_eq (by unfold few; rw [ha, Bool.true_and]; first | exact (decide_eq_true (by omega)).symm | exact (decide_eq_false (by omega)).symm), rfl⟩
def fewRows (l : List Row) : Bool := l.all few && decide (l.length ≤ 25)
def r8l0 : RCode :=
  (.seq (.region [
    ⟨(some 8), none, .act, .bin .lss (.tmp 7) (.tmp 6)⟩])
  (.seq (.cond (.tmp 8)
   .skip
   (.exit 0))
  (.seq (.block 1
   (.seq (.region [
     ⟨(some 9), none, .act, .indexAddr 1 (.tmp 5) (.tmp 7)⟩,
     ⟨(some 10), none, .act, .load false 1 (.tmp 9)⟩,
     ⟨(some 4), none, .act, .mv (.tmp 10)⟩])
   (.seq (.region [
     ⟨(some 11), none, .act, .mv (.tmp 4)⟩,
     ⟨(some 12), none, .act, .call 21 [(.tmp 11)]⟩,
     ⟨(some 13), none, .act, .un .not (.tmp 12)⟩])
   (.cond (.tmp 13)
    (.seq (.region [
      ⟨(some 2), none, .act, .mv (.const (.bool false))⟩])
    .ret)
    .skip))))
  (.region [
    ⟨(some 14), none, .act, .bin .add (.tmp 7) (.const (.int .i64 1))⟩,
    ⟨(some 7), none, .act, .mv (.tmp 14)⟩]))))
def r8 : RCode :=
  (.seq (.region [
    ⟨(some 2), none, .act, .mv (.const (.bool false))⟩])
  (.seq (.seq (.region [
    ⟨(some 5), none, .act, .mv (.tmp 0)⟩,
    ⟨(some 6), none, .act, .len (.tmp 5)⟩,
    ⟨(some 7), none, .act, .mv (.const (.int .i64 0))⟩])
  (.block 0
   (.loop r8l0)))
  (.seq (.region [
    ⟨(some 15), none, .act, .mv (.tmp 0)⟩,
    ⟨(some 16), none, .act, .len (.tmp 15)⟩,
    ⟨(some 17), none, .act, .bin .leq (.tmp 16) (.const (.int .i64 25))⟩,
    ⟨(some 2), none, .act, .mv (.tmp 17)⟩])
  .ret)))
theorem res8 : ∃ c, Try.f8.body = some c ∧ resCode Try.prog 18 c = some r8 := ⟨_, rfl, by kernel_rfl⟩
theorem rr8 : resRes Try.prog Try.f8.results.toList = some [.tmp 2] := by kernel_rfl
theorem rows_loop (l : List Row) (hl : l.length ≤ 9223372036854775807) (hr : ∀ r ∈ l, r.length ≤ 9223372036854775807) (h : AHeap) (k : List RT) (Q : AV → AHeap → Prop)
    (hk : l.all few = true → RRun Try.prog Try.f8 18 k (Env.get [(0, rowsA l)]) h Q) (hf : fewRows l = false → ∀ h', h.le h' → Q (bl false) h') : ∀ (m i : Nat), i + m = l.length → (l.take i).all few = true →
    RRun Try.prog Try.f8 18 (.inLoop r8l0 :: .inBlock 0 :: k) (Env.get [(0, rowsA l), (5, rowsA l), (6, i64 l.length), (7, i64 i)]) h Q := by
  intro m
  induction m with
  | zero =>
    intro i hi ht
    rw [List.take_of_length_le (by omega)] at ht
    refine RRun.inLoop ?_
    repeat' (first | refine S.nilK ?_ | (refine S.op rfl ?_; first | ((first | refine S.lss rfl rfl ?_ ?_) <;> intro hlt <;> try (exfalso; omega))) | refine S.seq ?_ | refine S.region ?_ | refine S.condF rfl ?_ | refine RRun.exit rfl ?_)
    exact S.keep [0] rfl (hk ht)
  | succ m ih =>
    intro i hi ht
    have hie : i < l.length := by omega
    have h1 : (l.map fun r => [rowA r])[((i : Nat) : Int).toNat]? = some [rowA l[i]] := by simp [hie]
    have c21 := fun h => few_spec l[i] (hr _ (List.getElem_mem hie)) h
    have hs : (l.take (i + 1)).all few = few l[i] := by
      rw [List.take_add_one, List.getElem?_eq_getElem hie, List.all_append, ht]; simp
    refine RRun.inLoop ?_
    cases hc : few l[i] with
    | true =>
      rw [hc] at c21
      repeat' (first | refine S.nilK ?_ | (refine S.op rfl ?_; first | refine R.indexAddr rfl rfl (by omega) h1 ?_ | refine callS rfl rfl (c21 _) ?_ | refine R.mv rfl ?_ | refine R.loadR rfl rfl ?_ | refine S.addI rfl rfl (by omega) ?_ | refine R.not rfl ?_ | ((first | refine S.lss rfl rfl ?_ ?_) <;> intro hlt <;> try (exfalso; omega))) | refine S.seq ?_ | refine S.region ?_ | refine S.condT rfl ?_ | refine S.condF rfl ?_ | refine RRun.skip ?_ | refine RRun.block ?_ | refine RRun.inBlock ?_)
      rw [show ((i : Int) + 1) = ((i + 1 : Nat) : Int) by omega]
      refine S.keep [0, 5, 6, 7] rfl (ih (i + 1) (by omega) (by rw [hs]; exact hc))
    | false =>
      rw [hc] at c21
      repeat' (first | refine S.nilK ?_ | (refine S.op rfl ?_; first | refine R.indexAddr rfl rfl (by omega) h1 ?_ | refine callS rfl rfl (c21 _) ?_ | refine R.mv rfl ?_ | refine R.loadR rfl rfl ?_ | refine R.not rfl ?_ | ((first | refine S.lss rfl rfl ?_ ?_) <;> intro hlt <;> try (exfalso; omega))) | refine S.seq ?_ | refine S.region ?_ | refine S.condT rfl ?_ | refine RRun.skip ?_ | refine RRun.block ?_)
      apply S.ret rr8
      case hx => repeat (first | exact ResAt.nil | apply ResAt.tmp rfl)
      refine hf ?_ _ (by repeat (first | exact AHeap.le.refl _))
      unfold fewRows
      have : l.all few = false := by
        rw [List.all_eq_false]
        exact ⟨_, List.getElem_mem hie, by simp [hc]⟩
      rw [this]; rfl
theorem rows_spec (l : List Row) (hl : l.length ≤ 9223372036854775807) (hr : ∀ r ∈ l, r.length ≤ 9223372036854775807) (h : AHeap) : ACalls Try.prog 8 [rowsA l] h (fun x h' => x = bl (fewRows l) ∧ h' = h) := by
  obtain ⟨c', hc1, hc2⟩ := res8
  refine ACalls.weak (ACalls.enter Try.func8 hc1 Try.ntmps8 hc2 (Nat.le_of_ble_eq_true rfl) rfl ?_)
  have hlen : (l.map fun r => [rowA r]).length = l.length := by simp
  repeat' (first | refine S.nilK ?_ | (refine S.op rfl ?_; first | refine R.mv rfl ?_ | refine R.len rfl ?_) | refine S.seq ?_ | refine S.region ?_ | refine RRun.block ?_)
  rw [hlen]
  refine RRun.loopIn (S.keep [0, 5, 6, 7] rfl (rows_loop l hl hr h _ _ (fun ha => ?_) (fun hf h' hh => ⟨_, h, .refl _, hh, by rw [hf], rfl⟩) l.length 0 (by omega) rfl))
  repeat' (first | refine S.nilK ?_ | (refine S.op rfl ?_; first | refine R.mv rfl ?_ | refine R.len rfl ?_ | ((first | refine S.leq rfl rfl ?_ ?_) <;> intro hlt <;> try (exfalso; omega))) | refine S.seq ?_ | refine S.region ?_)
  all_goals
    apply S.ret rr8
    case hx => repeat (first | exact ResAt.nil | apply ResAt.tmp rfl)
    exact ⟨_, h, .refl _, (by repeat (first | exact AHeap.le.refl _)), bl_eq (by unfold fewRows; rw [ha, Bool.true_and]; first | exact (decide_eq_true (by omega)).symm | exact (decide_eq_false (by omega)).symm), rfl⟩
end Go.Proofs.Ythadifboeggnpaa

namespace Go.Proofs.Ythadifboeggnpaa
open Go.Av
def r35l0 : RCode :=
  (.seq (.region [
    ⟨(some 57), none, .act, .bin .lss (.tmp 56) (.tmp 55)⟩])
  (.seq (.cond (.tmp 57)
   .skip
   (.exit 1))
  (.seq (.block 2
   (.seq (.region [
     ⟨(some 58), none, .act, .mv (.tmp 56)⟩,
     ⟨(some 59), none, .act, .indexAddr 8 (.tmp 54) (.tmp 56)⟩,
     ⟨(some 60), none, .act, .load true 8 (.tmp 59)⟩,
     ⟨(some 8), none, .act, .alloc [(.int .i64 0), (.string ⟨#[]⟩), (.string ⟨#[]⟩), (.int .i64 0), (.int .i64 0), (.int .i64 0), (.string ⟨#[]⟩), (.slice none 0 0)]⟩,
     ⟨(some 7), none, .act, .mv (.tmp 58)⟩,
     ⟨none, none, .act, .store 8 (.tmp 8) (.tmp 60)⟩])
   (.seq (.region [
     ⟨(some 62), none, .act, .load true 8 (.tmp 8)⟩,
     ⟨(some 63), none, .act, .mv (.tmp 1)⟩,
     ⟨(some 64), none, .act, .call 35 [(.tmp 62), (.tmp 63)]⟩,
     ⟨(some 61), none, .act, .mv (.tmp 64)⟩,
     ⟨(some 65), none, .act, .extract (.tmp 61) 0⟩,
     ⟨(some 66), none, .act, .extract (.tmp 61) 1⟩,
     ⟨(some 9), none, .act, .alloc [(.int .i64 0), (.int .i64 0), (.string ⟨#[]⟩)]⟩,
     ⟨none, none, .act, .store 3 (.tmp 9) (.tmp 65)⟩,
     ⟨(some 10), none, .act, .mv (.tmp 66)⟩])
   (.seq (.seq (.region [
     ⟨(some 67), none, .act, .mv (.tmp 10)⟩,
     ⟨(some 68), none, .act, .eq true .int (.tmp 67) (.const (.int .i64 0))⟩])
   (.cond (.tmp 68)
    (.seq (.region [
      ⟨(some 69), none, .act, .build [(.int .i64 0), (.int .i64 0), (.string ⟨#[]⟩)] []⟩,
      ⟨(some 70), none, .act, .mv (.tmp 10)⟩,
      ⟨none, none, .act, .store 3 (.tmp 4) (.tmp 69)⟩,
      ⟨(some 5), none, .act, .mv (.tmp 70)⟩])
    .ret)
    .skip))
   (.region [
     ⟨(some 71), none, .act, .mv (.tmp 7)⟩,
     ⟨(some 72), none, .act, .load true 3 (.tmp 9)⟩,
     ⟨(some 73), none, .act, .indexArr 2 3 (.tmp 6) (.tmp 71)⟩,
     ⟨none, none, .act, .store 3 (.tmp 73) (.tmp 72)⟩])))))
  (.region [
    ⟨(some 74), none, .act, .bin .add (.tmp 56) (.const (.int .i64 1))⟩,
    ⟨(some 56), none, .act, .mv (.tmp 74)⟩]))))
def r35 : RCode :=
  (.seq (.region [
    ⟨(some 2), none, .act, .box (.tmp 0)⟩,
    ⟨(some 4), none, .act, .alloc [(.int .i64 0), (.int .i64 0), (.string ⟨#[]⟩)]⟩,
    ⟨(some 5), none, .act, .mv (.const (.int .i64 0))⟩])
  (.seq (.seq (.region [
    ⟨(some 11), none, .pure, .fieldAddr 0 (.tmp 2)⟩,
    ⟨(some 12), none, .read, .load false 1 (.tmp 11)⟩,
    ⟨(some 13), none, .read, .call 43 [(.tmp 12)]⟩,
    ⟨(some 14), none, .pure, .fieldAddr 7 (.tmp 2)⟩,
    ⟨(some 15), none, .read, .load false 1 (.tmp 14)⟩,
    ⟨(some 16), none, .pure, .len (.tmp 15)⟩,
    ⟨(some 17), none, .pure, .eq true .int (.tmp 13) (.tmp 16)⟩,
    ⟨(some 18), none, .pure, .mv (.tmp 17)⟩,
    ⟨(some 19), (some (18, false)), .pure, .fieldAddr 0 (.tmp 2)⟩,
    ⟨(some 20), (some (18, false)), .read, .load false 1 (.tmp 19)⟩,
    ⟨(some 21), (some (18, false)), .pure, .eq false .int (.tmp 20) (.const (.int .i64 2))⟩,
    ⟨(some 22), none, .pure, .pick (.tmp 18) (.const (.bool true)) (.tmp 21)⟩,
    ⟨(some 23), none, .pure, .mv (.tmp 22)⟩,
    ⟨(some 24), (some (23, false)), .pure, .fieldAddr 0 (.tmp 2)⟩,
    ⟨(some 25), (some (23, false)), .read, .load false 1 (.tmp 24)⟩,
    ⟨(some 26), (some (23, false)), .act, .call 44 [(.tmp 25)]⟩,
    ⟨(some 27), none, .pure, .pick (.tmp 23) (.const (.bool true)) (.tmp 26)⟩])
  (.cond (.tmp 27)
   (.seq (.region [
     ⟨(some 28), none, .act, .build [(.int .i64 0), (.int .i64 0), (.string ⟨#[]⟩)] []⟩,
     ⟨none, none, .act, .store 3 (.tmp 4) (.tmp 28)⟩,
     ⟨(some 5), none, .act, .mv (.const (.int .i64 220))⟩])
   .ret)
   .skip))
  (.seq (.seq (.region [
    ⟨(some 29), none, .act, .fieldAddr 0 (.tmp 2)⟩,
    ⟨(some 30), none, .act, .load false 1 (.tmp 29)⟩])
  (.block 0
   (.seq (.region [
     ⟨(some 32), none, .act, .eq false .int (.tmp 30) (.const (.int .i64 1))⟩,
     ⟨(some 31), none, .act, .mv (.tmp 32)⟩])
   (.cond (.tmp 31)
    (.seq (.region [
      ⟨(some 33), none, .act, .fieldAddr 4 (.tmp 2)⟩,
      ⟨(some 34), none, .act, .load true 3 (.tmp 33)⟩,
      ⟨none, none, .act, .store 3 (.tmp 4) (.tmp 34)⟩,
      ⟨(some 5), none, .act, .mv (.const (.int .i64 0))⟩])
    .ret)
    (.seq (.region [
      ⟨(some 36), none, .act, .eq false .int (.tmp 30) (.const (.int .i64 3))⟩,
      ⟨(some 35), none, .act, .mv (.tmp 36)⟩])
    (.cond (.tmp 35)
     (.seq (.seq (.region [
       ⟨(some 37), none, .act, .fieldAddr 3 (.tmp 2)⟩,
       ⟨(some 38), none, .act, .load false 1 (.tmp 37)⟩,
       ⟨(some 39), none, .act, .bin .lss (.tmp 38) (.const (.int .i64 0))⟩,
       ⟨(some 40), none, .act, .mv (.tmp 39)⟩,
       ⟨(some 41), (some (40, false)), .act, .fieldAddr 3 (.tmp 2)⟩,
       ⟨(some 42), (some (40, false)), .act, .load false 1 (.tmp 41)⟩,
       ⟨(some 43), (some (40, false)), .act, .mv (.tmp 1)⟩,
       ⟨(some 44), (some (40, false)), .act, .len (.tmp 43)⟩,
       ⟨(some 45), (some (40, false)), .act, .bin .geq (.tmp 42) (.tmp 44)⟩,
       ⟨(some 46), none, .act, .pick (.tmp 40) (.const (.bool true)) (.tmp 45)⟩])
     (.cond (.tmp 46)
      (.seq (.region [
        ⟨(some 47), none, .act, .build [(.int .i64 0), (.int .i64 0), (.string ⟨#[]⟩)] []⟩,
        ⟨none, none, .act, .store 3 (.tmp 4) (.tmp 47)⟩,
        ⟨(some 5), none, .act, .mv (.const (.int .i64 0))⟩])
      .ret)
      .skip))
     (.seq (.region [
       ⟨(some 48), none, .act, .mv (.tmp 1)⟩,
       ⟨(some 49), none, .act, .fieldAddr 3 (.tmp 2)⟩,
       ⟨(some 50), none, .act, .load false 1 (.tmp 49)⟩,
       ⟨(some 51), none, .act, .indexAddr 3 (.tmp 48) (.tmp 50)⟩,
       ⟨(some 52), none, .act, .load true 3 (.tmp 51)⟩,
       ⟨none, none, .act, .store 3 (.tmp 4) (.tmp 52)⟩,
       ⟨(some 5), none, .act, .mv (.const (.int .i64 0))⟩])
     .ret))
     .skip))))))
  (.seq (.region [
    ⟨(some 6), none, .act, .alloc [(.int .i64 0), (.int .i64 0), (.string ⟨#[]⟩), (.int .i64 0), (.int .i64 0), (.string ⟨#[]⟩)]⟩])
  (.seq (.seq (.region [
    ⟨(some 53), none, .act, .fieldAddr 7 (.tmp 2)⟩,
    ⟨(some 54), none, .act, .load false 1 (.tmp 53)⟩,
    ⟨(some 55), none, .act, .len (.tmp 54)⟩,
    ⟨(some 56), none, .act, .mv (.const (.int .i64 0))⟩])
  (.block 1
   (.loop r35l0)))
  (.seq (.seq (.region [
    ⟨(some 75), none, .act, .fieldAddr 0 (.tmp 2)⟩,
    ⟨(some 76), none, .act, .load false 1 (.tmp 75)⟩,
    ⟨(some 77), none, .act, .eq false .int (.tmp 76) (.const (.int .i64 19))⟩])
  (.cond (.tmp 77)
   (.seq (.region [
     ⟨(some 78), none, .act, .indexArr 2 3 (.tmp 6) (.const (.int .i64 0))⟩,
     ⟨(some 79), none, .act, .fieldAddr 0 (.tmp 78)⟩,
     ⟨(some 80), none, .act, .load false 1 (.tmp 79)⟩,
     ⟨(some 81), none, .act, .eq false .int (.tmp 80) (.const (.int .i64 0))⟩,
     ⟨(some 82), none, .act, .call 45 [(.tmp 81)]⟩,
     ⟨none, none, .act, .store 3 (.tmp 4) (.tmp 82)⟩,
     ⟨(some 5), none, .act, .mv (.const (.int .i64 0))⟩])
   .ret)
   .skip))
  (.seq (.seq (.region [
    ⟨(some 83), none, .act, .fieldAddr 0 (.tmp 2)⟩,
    ⟨(some 84), none, .act, .load false 1 (.tmp 83)⟩,
    ⟨(some 85), none, .act, .call 46 [(.tmp 84)]⟩])
  (.cond (.tmp 85)
   (.seq (.region [
     ⟨(some 86), none, .act, .fieldAddr 0 (.tmp 2)⟩,
     ⟨(some 87), none, .act, .load false 1 (.tmp 86)⟩,
     ⟨(some 88), none, .act, .indexArr 2 3 (.tmp 6) (.const (.int .i64 0))⟩,
     ⟨(some 89), none, .act, .load true 3 (.tmp 88)⟩,
     ⟨(some 90), none, .act, .indexArr 2 3 (.tmp 6) (.const (.int .i64 1))⟩,
     ⟨(some 91), none, .act, .load true 3 (.tmp 90)⟩,
     ⟨(some 92), none, .act, .call 47 [(.tmp 87), (.tmp 89), (.tmp 91)]⟩,
     ⟨none, none, .act, .store 3 (.tmp 4) (.tmp 92)⟩,
     ⟨(some 5), none, .act, .mv (.const (.int .i64 0))⟩])
   .ret)
   .skip))
  (.seq (.region [
    ⟨(some 93), none, .pure, .fieldAddr 0 (.tmp 2)⟩,
    ⟨(some 94), none, .read, .load false 1 (.tmp 93)⟩,
    ⟨(some 95), none, .pure, .indexArr 2 3 (.tmp 6) (.const (.int .i64 0))⟩,
    ⟨(some 96), none, .read, .load true 3 (.tmp 95)⟩,
    ⟨(some 97), none, .read, .call 49 [(.tmp 96)]⟩,
    ⟨(some 98), none, .pure, .indexArr 2 3 (.tmp 6) (.const (.int .i64 1))⟩,
    ⟨(some 99), none, .read, .load true 3 (.tmp 98)⟩,
    ⟨(some 100), none, .read, .call 49 [(.tmp 99)]⟩,
    ⟨(some 101), none, .act, .call 48 [(.tmp 94), (.tmp 97), (.tmp 100)]⟩,
    ⟨(some 102), none, .pure, .extract (.tmp 101) 0⟩,
    ⟨(some 103), none, .pure, .extract (.tmp 101) 1⟩,
    ⟨none, none, .act, .store 3 (.tmp 4) (.tmp 102)⟩,
    ⟨(some 5), none, .pure, .mv (.tmp 103)⟩])
  .ret))))))))
theorem res35 : ∃ c, Try.f35.body = some c ∧ resCode Try.prog 104 c = some r35 := ⟨_, rfl, by kernel_rfl⟩
theorem rr35 : resRes Try.prog Try.f35.results.toList = some [.cell 4 true 3, .tmp 5] := by kernel_rfl
theorem eval_lit (t nm : List UInt8) (n vk vn : Int) (vs : List UInt8) (r : Row) (h : AHeap) :
    ACalls Try.prog 35 [.ag [i64 1, str t, str nm, i64 n, i64 vk, i64 vn, str vs, exprs []], rowA r] h (fun x h' => x = resA (⟨vk, vn, vs⟩, 0) ∧ h' = h) := by
  have c44 : ∀ h, ACalls Try.prog 44 [i64 1] h (fun x h' => x = bl false ∧ h' = h) := fun h => sums_spec 1 h
  have c43 : ∀ h, ACalls Try.prog 43 [i64 1] h (fun x h' => x = i64 0 ∧ h' = h) := fun h => parts_spec 1 h
  have hlen : (([] : List Ex).map Ex.cells).length = 0 := rfl
  obtain ⟨c', hc1, hc2⟩ := res35
  refine ACalls.weak (ACalls.enter Try.func35 hc1 Try.ntmps35 hc2 (Nat.le_of_ble_eq_true rfl) rfl ?_)
  repeat' (first | refine S.nilK ?_ | (refine S.op rfl ?_; first | refine R.callQ (by decide) rfl (c43 _) ?_ | refine R.callQ (by decide) rfl (c44 _) ?_ | refine R.mv rfl ?_ | refine R.fieldAddr rfl ?_ | refine R.load (by decide) rfl (by (repeat' (first | exact AHeap.set_same _ _ _ | refine AHeap.get_fresh ‹_› ?_)); first | done | fail) rfl ?_ | refine R.pickF rfl rfl ?_ | refine R.len rfl ?_ | refine R.alloc rfl (fun b hb => ?_) | refine R.box rfl rfl rfl (fun b hb => ?_) | ((first | refine S.eqInt rfl rfl ?_ ?_) <;> intro hlt <;> try (exfalso; omega))) | (refine S.op0 rfl ?_; first | refine S.storeS rfl rfl rfl (by rfl) rfl (by first | decide | exact Nat.le_refl _ | exact Nat.le_of_ble_eq_true rfl) ?_) | refine S.seq ?_ | refine S.region ?_ | refine S.condT rfl ?_ | refine S.condF rfl ?_ | refine RRun.skip ?_ | refine RRun.block ?_)
  apply S.ret rr35
  case hx => repeat (first | exact ResAt.nil | apply ResAt.tmp rfl | apply ResAt.cellA rfl (by (repeat' (first | exact AHeap.set_same _ _ _)); first | done | fail) (by rfl))
  exact ⟨_, h, .refl _, (by repeat (first | exact AHeap.le.refl _ | refine AHeap.le.set ?_ _ (by (repeat' (first | assumption | exact AHeap.z1 ‹_›)); first | done | fail))), rfl, rfl⟩
end Go.Proofs.Ythadifboeggnpaa

namespace Go.Proofs.Ythadifboeggnpaa
open Go.Av
theorem vals_one (r : Row) : ∀ z ∈ r.map Val.cells, ∀ a ∈ z, a.one = true := by
  intro z hz a ha
  obtain ⟨v, _, rfl⟩ := List.mem_map.1 hz
  simp [Val.cells] at ha
  rcases ha with rfl | rfl | rfl <;> rfl
def r27 : RCode :=
  (.seq (.region [
    ⟨(some 2), none, .act, .mv (.const (.slice none 0 0))⟩])
  (.seq (.seq (.region [
    ⟨(some 3), none, .act, .mv (.tmp 0)⟩,
    ⟨(some 4), none, .act, .eq false .slice (.tmp 3) (.const (.slice none 0 0))⟩])
  (.cond (.tmp 4)
   (.seq (.region [
     ⟨(some 2), none, .act, .mv (.const (.slice none 0 0))⟩])
   .ret)
   .skip))
  (.seq (.region [
    ⟨(some 5), none, .act, .buildSl 3 [(.int .i64 0), (.int .i64 0), (.string ⟨#[]⟩)] 0 []⟩,
    ⟨(some 6), none, .act, .mv (.tmp 0)⟩,
    ⟨(some 7), none, .act, .append 3 32 [(.int .i64 0), (.int .i64 0), (.string ⟨#[]⟩)] (.tmp 5) (.tmp 6)⟩,
    ⟨(some 2), none, .act, .mv (.tmp 7)⟩])
  .ret)))
theorem res27 : ∃ c, Try.f27.body = some c ∧ resCode Try.prog 8 c = some r27 := ⟨_, rfl, by kernel_rfl⟩
theorem rr27 : resRes Try.prog Try.f27.results.toList = some [.tmp 2] := by kernel_rfl
theorem clone_spec (r : Row) (hl : r.length ≤ 1000000000000) (h : AHeap) : ACalls Try.prog 27 [rowA r] h (fun x h' => x = rowA r ∧ h' = h) := by
  obtain ⟨c, hc1, hc2⟩ := res27
  refine ACalls.weak (ACalls.enter Try.func27 hc1 Try.ntmps27 hc2 (Nat.le_of_ble_eq_true rfl) rfl ?_)
  repeat' (first | refine S.nilK ?_ | (refine S.op rfl ?_; first | refine S.eqSlNil rfl rfl rfl ?_ (fun hnil => ?_) | refine R.mv rfl ?_ | refine R.buildSl rfl rfl rfl (by decide) ?_) | refine S.seq ?_ | refine S.region ?_ | refine S.condT rfl ?_ | refine S.condF rfl ?_ | refine RRun.skip ?_)
  · refine S.op rfl (R.appendV rfl (.sl _ _) rfl (.sl _ _) ?_ ?_ ?_ ?_)
    · exact vals_one r
    · simp [chunks]; omega
    · simp [chunks]; omega
    ·
      repeat' (first | refine S.nilK ?_ | (refine S.op rfl ?_; first | refine R.mv rfl ?_))
      refine RRun.ret rr27 rfl ?_
      exact ⟨_, _, .refl _, .refl _, rfl, rfl⟩
  · refine RRun.ret rr27 rfl ?_
    obtain rfl : r = [] := by simpa using hnil
    exact ⟨_, _, .nilSl 3 (c := .ro) trivial, .refl _, rfl, rfl⟩
theorem same_agg (v : Val) : aggEq [(0, .int), (1, .int), (2, .str)] [.int .i64 v.kind, .int .i64 v.n, .string ⟨v.s.toArray⟩] [.int .i64 v.kind, .int .i64 v.n, .string ⟨v.s.toArray⟩] = some true := by
  simp [aggEq, atomEq]
def r16l0 : RCode :=
  (.seq (.region [
    ⟨(some 14), none, .act, .bin .lss (.tmp 13) (.tmp 12)⟩])
  (.seq (.cond (.tmp 14)
   .skip
   (.exit 0))
  (.seq (.block 1
   (.seq (.region [
     ⟨(some 15), none, .act, .mv (.tmp 13)⟩,
     ⟨(some 5), none, .act, .mv (.tmp 15)⟩])
   (.seq (.region [
     ⟨(some 16), none, .pure, .mv (.tmp 0)⟩,
     ⟨(some 17), none, .pure, .mv (.tmp 5)⟩,
     ⟨(some 18), none, .pure, .indexAddr 3 (.tmp 16) (.tmp 17)⟩,
     ⟨(some 19), none, .read, .load true 3 (.tmp 18)⟩,
     ⟨(some 20), none, .pure, .mv (.tmp 1)⟩,
     ⟨(some 21), none, .pure, .mv (.tmp 5)⟩,
     ⟨(some 22), none, .pure, .indexAddr 3 (.tmp 20) (.tmp 21)⟩,
     ⟨(some 23), none, .read, .load true 3 (.tmp 22)⟩,
     ⟨(some 24), none, .pure, .eq true (.agg [(0, .int), (1, .int), (2, .str)]) (.tmp 19) (.tmp 23)⟩])
   (.cond (.tmp 24)
    (.seq (.region [
      ⟨(some 4), none, .act, .mv (.const (.bool false))⟩])
    .ret)
    .skip))))
  (.region [
    ⟨(some 25), none, .act, .bin .add (.tmp 13) (.const (.int .i64 1))⟩,
    ⟨(some 13), none, .act, .mv (.tmp 25)⟩]))))
def r16 : RCode :=
  (.seq (.region [
    ⟨(some 4), none, .act, .mv (.const (.bool false))⟩])
  (.seq (.seq (.region [
    ⟨(some 6), none, .act, .mv (.tmp 0)⟩,
    ⟨(some 7), none, .act, .len (.tmp 6)⟩,
    ⟨(some 8), none, .act, .mv (.tmp 1)⟩,
    ⟨(some 9), none, .act, .len (.tmp 8)⟩,
    ⟨(some 10), none, .act, .eq true .int (.tmp 7) (.tmp 9)⟩])
  (.cond (.tmp 10)
   (.seq (.region [
     ⟨(some 4), none, .act, .mv (.const (.bool false))⟩])
   .ret)
   .skip))
  (.seq (.seq (.region [
    ⟨(some 11), none, .act, .mv (.tmp 0)⟩,
    ⟨(some 12), none, .act, .len (.tmp 11)⟩,
    ⟨(some 13), none, .act, .mv (.const (.int .i64 0))⟩])
  (.block 0
   (.loop r16l0)))
  (.seq (.region [
    ⟨(some 4), none, .act, .mv (.const (.bool true))⟩])
  .ret))))
theorem res16 : ∃ c, Try.f16.body = some c ∧ resCode Try.prog 26 c = some r16 := ⟨_, rfl, by kernel_rfl⟩
theorem rr16 : resRes Try.prog Try.f16.results.toList = some [.tmp 4] := by kernel_rfl
end Go.Proofs.Ythadifboeggnpaa

namespace Go.Proofs.Ythadifboeggnpaa
open Go.Av
abbrev rowsC (l : List Row) (c : Cap) : AV := .sl 1 (l.map fun r => [rowA r]) c
abbrev ansA (p : List Row × Int) : AV := .tu [rowsA p.1, i64 p.2]
theorem row_one (r : Row) : ∀ e ∈ [[rowA r]], ∀ a ∈ e, a.one = true := by
  intro e he a ha
  simp at he; subst he; simp at ha; subst ha; rfl
structure Stop (p : Prop) : Prop where
  h : p
end Go.Proofs.Ythadifboeggnpaa

namespace Go.Proofs.Ythadifboeggnpaa
open Go.Av
abbrev countA : AV := .ag [i64 20, str [], str [], i64 0, i64 0, i64 0, str [], exprs []]
def nV (n : Nat) : Val := ⟨1, n, []⟩
def r42l0 : RCode :=
  (.seq (.region [
    ⟨(some 25), none, .act, .bin .lss (.tmp 24) (.tmp 23)⟩])
  (.seq (.cond (.tmp 25)
   .skip
   (.exit 0))
  (.seq (.block 1
   (.seq (.region [
     ⟨(some 26), none, .act, .indexAddr 1 (.tmp 22) (.tmp 24)⟩,
     ⟨(some 27), none, .act, .load false 1 (.tmp 26)⟩,
     ⟨(some 8), none, .act, .mv (.tmp 27)⟩])
   (.seq (.region [
     ⟨(some 29), none, .act, .fieldAddr 7 (.tmp 2)⟩,
     ⟨(some 30), none, .act, .load false 1 (.tmp 29)⟩,
     ⟨(some 31), none, .act, .indexAddr 8 (.tmp 30) (.const (.int .i64 0))⟩,
     ⟨(some 32), none, .act, .load true 8 (.tmp 31)⟩,
     ⟨(some 33), none, .act, .mv (.tmp 8)⟩,
     ⟨(some 34), none, .act, .call 35 [(.tmp 32), (.tmp 33)]⟩,
     ⟨(some 28), none, .act, .mv (.tmp 34)⟩,
     ⟨(some 35), none, .act, .extract (.tmp 28) 0⟩,
     ⟨(some 36), none, .act, .extract (.tmp 28) 1⟩,
     ⟨(some 9), none, .act, .alloc [(.int .i64 0), (.int .i64 0), (.string ⟨#[]⟩)]⟩,
     ⟨none, none, .act, .store 3 (.tmp 9) (.tmp 35)⟩,
     ⟨(some 10), none, .act, .mv (.tmp 36)⟩])
   (.seq (.seq (.region [
     ⟨(some 37), none, .act, .mv (.tmp 10)⟩,
     ⟨(some 38), none, .act, .eq true .int (.tmp 37) (.const (.int .i64 0))⟩])
   (.cond (.tmp 38)
    (.seq (.region [
      ⟨(some 39), none, .act, .build [(.int .i64 0), (.int .i64 0), (.string ⟨#[]⟩)] []⟩,
      ⟨(some 40), none, .act, .mv (.tmp 10)⟩,
      ⟨none, none, .act, .store 3 (.tmp 4) (.tmp 39)⟩,
      ⟨(some 5), none, .act, .mv (.tmp 40)⟩])
    .ret)
    .skip))
   (.seq (.seq (.region [
     ⟨(some 41), none, .act, .fieldAddr 0 (.tmp 9)⟩,
     ⟨(some 42), none, .act, .load false 1 (.tmp 41)⟩,
     ⟨(some 43), none, .act, .eq false .int (.tmp 42) (.const (.int .i64 0))⟩,
     ⟨(some 44), none, .act, .mv (.tmp 43)⟩,
     ⟨(some 45), (some (44, false)), .act, .fieldAddr 0 (.tmp 2)⟩,
     ⟨(some 46), (some (44, false)), .act, .load false 1 (.tmp 45)⟩,
     ⟨(some 47), (some (44, false)), .act, .eq false .int (.tmp 46) (.const (.int .i64 21))⟩,
     ⟨(some 48), (some (44, false)), .act, .mv (.tmp 47)⟩,
     ⟨(some 49), (some (48, true)), .act, .fieldAddr 0 (.tmp 9)⟩,
     ⟨(some 50), (some (48, true)), .act, .load false 1 (.tmp 49)⟩,
     ⟨(some 51), (some (48, true)), .act, .eq true .int (.tmp 50) (.const (.int .i64 1))⟩,
     ⟨(some 52), (some (44, false)), .act, .pick (.tmp 48) (.tmp 51) (.const (.bool false))⟩,
     ⟨(some 53), none, .act, .pick (.tmp 44) (.const (.bool true)) (.tmp 52)⟩])
   (.cond (.tmp 53)
    (.exit 1)
    .skip))
   (.seq (.region [
     ⟨(some 55), none, .act, .fieldAddr 0 (.tmp 2)⟩,
     ⟨(some 56), none, .act, .load false 1 (.tmp 55)⟩,
     ⟨(some 57), none, .act, .load true 3 (.tmp 6)⟩,
     ⟨(some 58), none, .act, .load true 3 (.tmp 9)⟩,
     ⟨(some 59), none, .act, .call 57 [(.tmp 56), (.tmp 57), (.tmp 58)]⟩,
     ⟨(some 54), none, .act, .mv (.tmp 59)⟩,
     ⟨(some 60), none, .act, .extract (.tmp 54) 0⟩,
     ⟨(some 61), none, .act, .extract (.tmp 54) 1⟩,
     ⟨none, none, .act, .store 3 (.tmp 6) (.tmp 60)⟩,
     ⟨(some 10), none, .act, .mv (.tmp 61)⟩])
   (.seq (.region [
     ⟨(some 62), none, .act, .mv (.tmp 10)⟩,
     ⟨(some 63), none, .act, .eq true .int (.tmp 62) (.const (.int .i64 0))⟩])
   (.cond (.tmp 63)
    (.seq (.region [
      ⟨(some 64), none, .act, .build [(.int .i64 0), (.int .i64 0), (.string ⟨#[]⟩)] []⟩,
      ⟨(some 65), none, .act, .mv (.tmp 10)⟩,
      ⟨none, none, .act, .store 3 (.tmp 4) (.tmp 64)⟩,
      ⟨(some 5), none, .act, .mv (.tmp 65)⟩])
    .ret)
    .skip))))))))
  (.region [
    ⟨(some 66), none, .act, .bin .add (.tmp 24) (.const (.int .i64 1))⟩,
    ⟨(some 24), none, .act, .mv (.tmp 66)⟩]))))
def r42 : RCode :=
  (.seq (.region [
    ⟨(some 2), none, .act, .box (.tmp 0)⟩,
    ⟨(some 4), none, .act, .alloc [(.int .i64 0), (.int .i64 0), (.string ⟨#[]⟩)]⟩,
    ⟨(some 5), none, .act, .mv (.const (.int .i64 0))⟩])
  (.seq (.seq (.region [
    ⟨(some 11), none, .act, .fieldAddr 0 (.tmp 2)⟩,
    ⟨(some 12), none, .act, .load false 1 (.tmp 11)⟩,
    ⟨(some 13), none, .act, .eq false .int (.tmp 12) (.const (.int .i64 20))⟩])
  (.cond (.tmp 13)
   (.seq (.region [
     ⟨(some 14), none, .act, .mv (.tmp 1)⟩,
     ⟨(some 15), none, .act, .len (.tmp 14)⟩,
     ⟨(some 16), none, .act, .build [(.int .i64 0), (.int .i64 0), (.string ⟨#[]⟩)] [(0, 1, (.const (.int .i64 1))), (1, 1, (.tmp 15))]⟩,
     ⟨none, none, .act, .store 3 (.tmp 4) (.tmp 16)⟩,
     ⟨(some 5), none, .act, .mv (.const (.int .i64 0))⟩])
   .ret)
   .skip))
  (.seq (.seq (.region [
    ⟨(some 17), none, .act, .fieldAddr 7 (.tmp 2)⟩,
    ⟨(some 18), none, .act, .load false 1 (.tmp 17)⟩,
    ⟨(some 19), none, .act, .len (.tmp 18)⟩,
    ⟨(some 20), none, .act, .eq true .int (.tmp 19) (.const (.int .i64 1))⟩])
  (.cond (.tmp 20)
   (.seq (.region [
     ⟨(some 21), none, .act, .build [(.int .i64 0), (.int .i64 0), (.string ⟨#[]⟩)] []⟩,
     ⟨none, none, .act, .store 3 (.tmp 4) (.tmp 21)⟩,
     ⟨(some 5), none, .act, .mv (.const (.int .i64 220))⟩])
   .ret)
   .skip))
  (.seq (.region [
    ⟨(some 6), none, .act, .alloc [(.int .i64 0), (.int .i64 0), (.string ⟨#[]⟩)]⟩])
  (.seq (.seq (.region [
    ⟨(some 22), none, .act, .mv (.tmp 1)⟩,
    ⟨(some 23), none, .act, .len (.tmp 22)⟩,
    ⟨(some 24), none, .act, .mv (.const (.int .i64 0))⟩])
  (.block 0
   (.loop r42l0)))
  (.seq (.region [
    ⟨(some 67), none, .act, .load true 3 (.tmp 6)⟩,
    ⟨none, none, .act, .store 3 (.tmp 4) (.tmp 67)⟩,
    ⟨(some 5), none, .act, .mv (.const (.int .i64 0))⟩])
  .ret))))))
theorem res42 : ∃ c, Try.f42.body = some c ∧ resCode Try.prog 68 c = some r42 := ⟨_, rfl, by kernel_rfl⟩
theorem rr42 : resRes Try.prog Try.f42.results.toList = some [.cell 4 true 3, .tmp 5] := by kernel_rfl
theorem total_count (g : List Row) (h : AHeap) : ACalls Try.prog 42 [countA, rowsA g] h (fun x h' => x = .tu [.ag [i64 1, i64 g.length, str []], i64 0] ∧ h' = h) := by
  obtain ⟨c', hc1, hc2⟩ := res42
  refine ACalls.weak (ACalls.enter Try.func42 hc1 Try.ntmps42 hc2 (Nat.le_of_ble_eq_true rfl) rfl ?_)
  have hlen : (g.map fun r => [rowA r]).length = g.length := by simp
  repeat' (first | refine S.nilK ?_ | (refine S.op rfl ?_; first | refine S.eqIntSame (a := 20) rfl rfl ?_ | refine R.mv rfl ?_ | refine R.fieldAddr rfl ?_ | refine R.load (by decide) rfl (by (repeat' (first | exact AHeap.set_same _ _ _ | refine AHeap.get_fresh ‹_› ?_)); first | done | fail) rfl ?_ | refine R.len rfl ?_ | refine R.alloc rfl (fun b hb => ?_) | refine R.box rfl rfl rfl (fun b hb => ?_) | refine R.build rfl rfl ?_) | (refine S.op0 rfl ?_; first | refine S.storeS rfl rfl rfl (by rfl) rfl (by first | decide | exact Nat.le_refl _ | exact Nat.le_of_ble_eq_true rfl) ?_) | refine S.seq ?_ | refine S.region ?_ | refine S.condT rfl ?_)
  apply S.ret rr42
  case hx => repeat (first | exact ResAt.nil | apply ResAt.tmp rfl | apply ResAt.cellA rfl (by (repeat' (first | exact AHeap.set_same _ _ _)); first | done | fail) (by rfl))
  exact ⟨_, h, .refl _, (by repeat (first | exact AHeap.le.refl _ | refine AHeap.le.set ?_ _ (by (repeat' (first | assumption | exact AHeap.z1 ‹_›)); first | done | fail))), by rw [← hlen]; rfl, rfl⟩
def r34l0 : RCode :=
  (.seq (.region [
    ⟨(some 36), none, .act, .bin .lss (.tmp 35) (.tmp 34)⟩])
  (.seq (.cond (.tmp 36)
   .skip
   (.exit 0))
  (.seq (.block 1
   (.seq (.region [
     ⟨(some 37), none, .act, .indexAddr 8 (.tmp 33) (.tmp 35)⟩,
     ⟨(some 38), none, .act, .load true 8 (.tmp 37)⟩,
     ⟨(some 10), none, .act, .alloc [(.int .i64 0), (.string ⟨#[]⟩), (.string ⟨#[]⟩), (.int .i64 0), (.int .i64 0), (.int .i64 0), (.string ⟨#[]⟩), (.slice none 0 0)]⟩,
     ⟨none, none, .act, .store 8 (.tmp 10) (.tmp 38)⟩])
   (.seq (.region [
     ⟨(some 40), none, .act, .load true 8 (.tmp 10)⟩,
     ⟨(some 41), none, .act, .mv (.tmp 1)⟩,
     ⟨(some 42), none, .act, .call 34 [(.tmp 40), (.tmp 41)]⟩,
     ⟨(some 39), none, .act, .mv (.tmp 42)⟩,
     ⟨(some 43), none, .act, .extract (.tmp 39) 0⟩,
     ⟨(some 44), none, .act, .extract (.tmp 39) 1⟩,
     ⟨(some 11), none, .act, .alloc [(.int .i64 0), (.string ⟨#[]⟩), (.string ⟨#[]⟩), (.int .i64 0), (.int .i64 0), (.int .i64 0), (.string ⟨#[]⟩), (.slice none 0 0)]⟩,
     ⟨none, none, .act, .store 8 (.tmp 11) (.tmp 43)⟩,
     ⟨(some 12), none, .act, .mv (.tmp 44)⟩])
   (.seq (.seq (.region [
     ⟨(some 45), none, .act, .mv (.tmp 12)⟩,
     ⟨(some 46), none, .act, .eq true .int (.tmp 45) (.const (.int .i64 0))⟩])
   (.cond (.tmp 46)
    (.seq (.region [
      ⟨(some 47), none, .act, .build [(.int .i64 0), (.string ⟨#[]⟩), (.string ⟨#[]⟩), (.int .i64 0), (.int .i64 0), (.int .i64 0), (.string ⟨#[]⟩), (.slice none 0 0)] []⟩,
      ⟨(some 48), none, .act, .mv (.tmp 12)⟩,
      ⟨none, none, .act, .store 8 (.tmp 4) (.tmp 47)⟩,
      ⟨(some 5), none, .act, .mv (.tmp 48)⟩])
    .ret)
    .skip))
   (.region [
     ⟨(some 49), none, .act, .fieldAddr 7 (.tmp 8)⟩,
     ⟨(some 50), none, .act, .load false 1 (.tmp 49)⟩,
     ⟨(some 51), none, .act, .load true 8 (.tmp 11)⟩,
     ⟨(some 52), none, .act, .buildSl 8 [(.int .i64 0), (.string ⟨#[]⟩), (.string ⟨#[]⟩), (.int .i64 0), (.int .i64 0), (.int .i64 0), (.string ⟨#[]⟩), (.slice none 0 0)] 1 [(0, (.tmp 51))]⟩,
     ⟨(some 53), none, .act, .append 8 104 [(.int .i64 0), (.string ⟨#[]⟩), (.string ⟨#[]⟩), (.int .i64 0), (.int .i64 0), (.int .i64 0), (.string ⟨#[]⟩), (.slice none 0 0)] (.tmp 50) (.tmp 52)⟩,
     ⟨(some 54), none, .act, .fieldAddr 7 (.tmp 8)⟩,
     ⟨none, none, .act, .store 1 (.tmp 54) (.tmp 53)⟩])))))
  (.region [
    ⟨(some 55), none, .act, .bin .add (.tmp 35) (.const (.int .i64 1))⟩,
    ⟨(some 35), none, .act, .mv (.tmp 55)⟩]))))
def r34 : RCode :=
  (.seq (.region [
    ⟨(some 2), none, .act, .box (.tmp 0)⟩,
    ⟨(some 4), none, .act, .alloc [(.int .i64 0), (.string ⟨#[]⟩), (.string ⟨#[]⟩), (.int .i64 0), (.int .i64 0), (.int .i64 0), (.string ⟨#[]⟩), (.slice none 0 0)]⟩,
    ⟨(some 5), none, .act, .mv (.const (.int .i64 0))⟩])
  (.seq (.seq (.region [
    ⟨(some 13), none, .act, .fieldAddr 0 (.tmp 2)⟩,
    ⟨(some 14), none, .act, .load false 1 (.tmp 13)⟩,
    ⟨(some 15), none, .act, .bin .geq (.tmp 14) (.const (.int .i64 20))⟩,
    ⟨(some 16), none, .act, .mv (.tmp 15)⟩,
    ⟨(some 17), (some (16, true)), .act, .fieldAddr 0 (.tmp 2)⟩,
    ⟨(some 18), (some (16, true)), .act, .load false 1 (.tmp 17)⟩,
    ⟨(some 19), (some (16, true)), .act, .bin .leq (.tmp 18) (.const (.int .i64 23))⟩,
    ⟨(some 20), none, .act, .pick (.tmp 16) (.tmp 19) (.const (.bool false))⟩])
  (.cond (.tmp 20)
   (.seq (.region [
     ⟨(some 22), none, .act, .load true 8 (.tmp 2)⟩,
     ⟨(some 23), none, .act, .mv (.tmp 1)⟩,
     ⟨(some 24), none, .act, .call 42 [(.tmp 22), (.tmp 23)]⟩,
     ⟨(some 21), none, .act, .mv (.tmp 24)⟩,
     ⟨(some 25), none, .act, .extract (.tmp 21) 0⟩,
     ⟨(some 26), none, .act, .extract (.tmp 21) 1⟩,
     ⟨(some 6), none, .act, .alloc [(.int .i64 0), (.int .i64 0), (.string ⟨#[]⟩)]⟩,
     ⟨none, none, .act, .store 3 (.tmp 6) (.tmp 25)⟩,
     ⟨(some 7), none, .act, .mv (.tmp 26)⟩])
   (.seq (.region [
     ⟨(some 27), none, .act, .load true 3 (.tmp 6)⟩,
     ⟨(some 28), none, .act, .build [(.int .i64 0), (.string ⟨#[]⟩), (.string ⟨#[]⟩), (.int .i64 0), (.int .i64 0), (.int .i64 0), (.string ⟨#[]⟩), (.slice none 0 0)] [(0, 1, (.const (.int .i64 1))), (4, 3, (.tmp 27))]⟩,
     ⟨(some 29), none, .act, .mv (.tmp 7)⟩,
     ⟨none, none, .act, .store 8 (.tmp 4) (.tmp 28)⟩,
     ⟨(some 5), none, .act, .mv (.tmp 29)⟩])
   .ret))
   .skip))
  (.seq (.region [
    ⟨(some 30), none, .act, .load true 8 (.tmp 2)⟩,
    ⟨(some 8), none, .act, .alloc [(.int .i64 0), (.string ⟨#[]⟩), (.string ⟨#[]⟩), (.int .i64 0), (.int .i64 0), (.int .i64 0), (.string ⟨#[]⟩), (.slice none 0 0)]⟩,
    ⟨none, none, .act, .store 8 (.tmp 8) (.tmp 30)⟩])
  (.seq (.region [
    ⟨(some 31), none, .act, .fieldAddr 7 (.tmp 8)⟩,
    ⟨none, none, .act, .store 1 (.tmp 31) (.const (.slice none 0 0))⟩])
  (.seq (.seq (.region [
    ⟨(some 32), none, .act, .fieldAddr 7 (.tmp 2)⟩,
    ⟨(some 33), none, .act, .load false 1 (.tmp 32)⟩,
    ⟨(some 34), none, .act, .len (.tmp 33)⟩,
    ⟨(some 35), none, .act, .mv (.const (.int .i64 0))⟩])
  (.block 0
   (.loop r34l0)))
  (.seq (.region [
    ⟨(some 56), none, .act, .load true 8 (.tmp 8)⟩,
    ⟨none, none, .act, .store 8 (.tmp 4) (.tmp 56)⟩,
    ⟨(some 5), none, .act, .mv (.const (.int .i64 0))⟩])
  .ret))))))
theorem res34 : ∃ c, Try.f34.body = some c ∧ resCode Try.prog 57 c = some r34 := ⟨_, rfl, by kernel_rfl⟩
theorem rr34 : resRes Try.prog Try.f34.results.toList = some [.cell 4 true 8, .tmp 5] := by kernel_rfl
theorem reduced_count (g : List Row) (h : AHeap) : ACalls Try.prog 34 [countA, rowsA g] h (fun x h' => x = .tu [.ag [i64 1, str [], str [], i64 0, i64 1, i64 g.length, str [], exprs []], i64 0] ∧ h' = h) := by
  have c42 := fun h => total_count g h
  obtain ⟨c', hc1, hc2⟩ := res34
  refine ACalls.weak (ACalls.enter Try.func34 hc1 Try.ntmps34 hc2 (Nat.le_of_ble_eq_true rfl) rfl ?_)
  repeat' (first | refine S.nilK ?_ | (refine S.op rfl ?_; first | refine callS rfl rfl (c42 _) ?_ | refine R.mv rfl ?_ | refine R.fieldAddr rfl ?_ | refine R.load (by decide) rfl (by (repeat' (first | exact AHeap.set_same _ _ _ | refine AHeap.get_fresh ‹_› ?_)); first | done | fail) rfl ?_ | refine R.pickT rfl rfl ?_ | refine R.extract rfl rfl ?_ | refine R.alloc rfl (fun b hb => ?_) | refine R.box rfl rfl rfl (fun b hb => ?_) | refine R.build rfl rfl ?_ | ((first | refine S.leq rfl rfl ?_ ?_ | refine S.geq rfl rfl ?_ ?_) <;> intro hlt <;> try (exfalso; omega))) | (refine S.op0 rfl ?_; first | refine S.storeS rfl rfl rfl (by rfl) rfl (by first | decide | exact Nat.le_refl _ | exact Nat.le_of_ble_eq_true rfl) ?_ | refine S.store rfl rfl (by (repeat' (first | exact AHeap.set_same _ _ _ | refine AHeap.get_fresh ‹_› ?_)); first | done | fail) rfl rfl rfl (by rfl) rfl ?_) | refine S.seq ?_ | refine S.region ?_ | refine S.condT rfl ?_)
  apply S.ret rr34
  case hx => repeat (first | exact ResAt.nil | apply ResAt.tmp rfl | apply ResAt.cellA rfl (by (repeat' (first | exact AHeap.set_same _ _ _)); first | done | fail) (by rfl))
  exact ⟨_, h, .tu (.cons (.ag (.cons (.refl _) (.cons (.refl _) (.cons (.refl _) (.cons (.refl _) (.cons (.refl _) (.cons (.refl _) (.cons (.refl _) (.cons (.nilSl 8 (c := .ro) trivial) .nil))))))))) (.cons (.refl _) .nil)), (by repeat (first | exact AHeap.le.refl _ | refine AHeap.le.set ?_ _ (by (repeat' (first | assumption | exact AHeap.z1 ‹_› | exact AHeap.z2 ‹_›)); first | done | fail))), rfl, rfl⟩
def r24 : RCode :=
  (.seq (.region [
    ⟨(some 2), none, .act, .box (.tmp 0)⟩,
    ⟨(some 4), none, .act, .alloc [(.int .i64 0), (.int .i64 0), (.string ⟨#[]⟩)]⟩,
    ⟨(some 5), none, .act, .mv (.const (.int .i64 0))⟩])
  (.seq (.region [
    ⟨(some 10), none, .act, .load true 8 (.tmp 2)⟩,
    ⟨(some 11), none, .act, .mv (.tmp 1)⟩,
    ⟨(some 12), none, .act, .call 34 [(.tmp 10), (.tmp 11)]⟩,
    ⟨(some 9), none, .act, .mv (.tmp 12)⟩,
    ⟨(some 13), none, .act, .extract (.tmp 9) 0⟩,
    ⟨(some 14), none, .act, .extract (.tmp 9) 1⟩,
    ⟨(some 6), none, .act, .alloc [(.int .i64 0), (.string ⟨#[]⟩), (.string ⟨#[]⟩), (.int .i64 0), (.int .i64 0), (.int .i64 0), (.string ⟨#[]⟩), (.slice none 0 0)]⟩,
    ⟨none, none, .act, .store 8 (.tmp 6) (.tmp 13)⟩,
    ⟨(some 7), none, .act, .mv (.tmp 14)⟩])
  (.seq (.seq (.region [
    ⟨(some 15), none, .act, .mv (.tmp 7)⟩,
    ⟨(some 16), none, .act, .eq true .int (.tmp 15) (.const (.int .i64 0))⟩])
  (.cond (.tmp 16)
   (.seq (.region [
     ⟨(some 17), none, .act, .build [(.int .i64 0), (.int .i64 0), (.string ⟨#[]⟩)] []⟩,
     ⟨(some 18), none, .act, .mv (.tmp 7)⟩,
     ⟨none, none, .act, .store 3 (.tmp 4) (.tmp 17)⟩,
     ⟨(some 5), none, .act, .mv (.tmp 18)⟩])
   .ret)
   .skip))
  (.seq (.region [
    ⟨(some 8), none, .act, .mv (.const (.slice none 0 0))⟩])
  (.seq (.seq (.region [
    ⟨(some 19), none, .act, .mv (.tmp 1)⟩,
    ⟨(some 20), none, .act, .len (.tmp 19)⟩,
    ⟨(some 21), none, .act, .bin .gtr (.tmp 20) (.const (.int .i64 0))⟩])
  (.cond (.tmp 21)
   (.region [
     ⟨(some 22), none, .act, .mv (.tmp 1)⟩,
     ⟨(some 23), none, .act, .indexAddr 1 (.tmp 22) (.const (.int .i64 0))⟩,
     ⟨(some 24), none, .act, .load false 1 (.tmp 23)⟩,
     ⟨(some 8), none, .act, .mv (.tmp 24)⟩])
   .skip))
  (.seq (.region [
    ⟨(some 25), none, .act, .load true 8 (.tmp 6)⟩,
    ⟨(some 26), none, .act, .mv (.tmp 8)⟩,
    ⟨(some 27), none, .act, .call 35 [(.tmp 25), (.tmp 26)]⟩,
    ⟨(some 28), none, .act, .extract (.tmp 27) 0⟩,
    ⟨(some 29), none, .act, .extract (.tmp 27) 1⟩,
    ⟨none, none, .act, .store 3 (.tmp 4) (.tmp 28)⟩,
    ⟨(some 5), none, .act, .mv (.tmp 29)⟩])
  .ret))))))
theorem res24 : ∃ c, Try.f24.body = some c ∧ resCode Try.prog 30 c = some r24 := ⟨_, rfl, by kernel_rfl⟩
theorem rr24 : resRes Try.prog Try.f24.results.toList = some [.cell 4 true 3, .tmp 5] := by kernel_rfl
theorem over_count (g : List Row) (h : AHeap) : ACalls Try.prog 24 [countA, rowsA g] h (fun x h' => x = .tu [.ag [i64 1, i64 g.length, str []], i64 0] ∧ h' = h) := by
  have c34 := fun h => reduced_count g h
  have c35 : ∀ r h, ACalls Try.prog 35 [.ag [i64 1, str [], str [], i64 0, i64 1, i64 g.length, str [], exprs []], rowA r] h (fun x h' => x = .tu [.ag [i64 1, i64 g.length, str []], i64 0] ∧ h' = h) := fun r h => eval_lit [] [] 0 1 g.length [] r h
  have c35n : ∀ h, ACalls Try.prog 35 [.ag [i64 1, str [], str [], i64 0, i64 1, i64 g.length, str [], exprs []], .v (.slice none 0 0)] h (fun x h' => x = .tu [.ag [i64 1, i64 g.length, str []], i64 0] ∧ h' = h) := fun h => ACalls.args (c35 [] h) (.cons (.refl _) (.cons (.nilSl 3 (c := .ro) trivial) .nil))
  have hlen : (g.map fun r => [rowA r]).length = g.length := by simp
  obtain ⟨c', hc1, hc2⟩ := res24
  refine ACalls.weak (ACalls.enter Try.func24 hc1 Try.ntmps24 hc2 (Nat.le_of_ble_eq_true rfl) rfl ?_)
  generalize hgn : (g.length : Int) = n at c34 c35 c35n ⊢
  cases g with
  | nil =>
    have hlen0 : (([] : List Row).map fun r => [rowA r]).length = 0 := rfl
    repeat' (first | refine S.nilK ?_ | (refine S.op rfl ?_; first | refine callS rfl rfl (c34 _) ?_ | refine callS rfl rfl (c35n _) ?_ | refine R.mv rfl ?_ | refine R.load (by decide) rfl (by (repeat' (first | exact AHeap.set_same _ _ _ | refine AHeap.get_fresh ‹_› ?_)); first | done | fail) rfl ?_ | refine R.len rfl ?_ | refine R.extract rfl rfl ?_ | refine R.alloc rfl (fun b hb => ?_) | refine R.box rfl rfl rfl (fun b hb => ?_) | ((first | refine S.gtr rfl rfl ?_ ?_ | refine S.eqInt rfl rfl ?_ ?_) <;> intro hlt <;> try (exfalso; omega))) | (refine S.op0 rfl ?_; first | refine S.storeS rfl rfl rfl (by rfl) rfl (by first | decide | exact Nat.le_refl _ | exact Nat.le_of_ble_eq_true rfl) ?_ | refine S.store rfl rfl (by (repeat' (first | exact AHeap.set_same _ _ _ | refine AHeap.get_fresh ‹_› ?_)); first | done | fail) rfl rfl rfl (by rfl) rfl ?_) | refine S.seq ?_ | refine S.region ?_ | refine S.condF rfl ?_ | refine RRun.skip ?_)
    apply S.ret rr24
    case hx => repeat (first | exact ResAt.nil | apply ResAt.tmp rfl | apply ResAt.cellA rfl (by (repeat' (first | exact AHeap.set_same _ _ _)); first | done | fail) (by rfl))
    exact ⟨_, h, .refl _, (by repeat (first | exact AHeap.le.refl _ | refine AHeap.le.set ?_ _ (by (repeat' (first | assumption | exact AHeap.z1 ‹_› | exact AHeap.z2 ‹_›)); first | done | fail))), rfl, rfl⟩
  | cons r g =>
    have h1 : ((r :: g).map fun r => [rowA r])[(0 : Int).toNat]? = some [rowA r] := rfl
    have hpos : 0 < ((r :: g).map fun r => [rowA r]).length := by simp
    repeat' (first | refine S.nilK ?_ | (refine S.op rfl ?_; first | refine callS rfl rfl (c34 _) ?_ | refine callS rfl rfl (c35 _ _) ?_ | refine R.indexAddr rfl rfl (by omega) h1 ?_ | refine R.mv rfl ?_ | refine R.loadR rfl rfl ?_ | refine R.load (by decide) rfl (by (repeat' (first | exact AHeap.set_same _ _ _ | refine AHeap.get_fresh ‹_› ?_)); first | done | fail) rfl ?_ | refine R.len rfl ?_ | refine R.extract rfl rfl ?_ | refine R.alloc rfl (fun b hb => ?_) | refine R.box rfl rfl rfl (fun b hb => ?_) | ((first | refine S.gtr rfl rfl ?_ ?_ | refine S.eqInt rfl rfl ?_ ?_) <;> intro hlt <;> try (exfalso; omega))) | (refine S.op0 rfl ?_; first | refine S.storeS rfl rfl rfl (by rfl) rfl (by first | decide | exact Nat.le_refl _ | exact Nat.le_of_ble_eq_true rfl) ?_ | refine S.store rfl rfl (by (repeat' (first | exact AHeap.set_same _ _ _ | refine AHeap.get_fresh ‹_› ?_)); first | done | fail) rfl rfl rfl (by rfl) rfl ?_) | refine S.seq ?_ | refine S.region ?_ | refine S.condT rfl ?_ | refine S.condF rfl ?_ | refine RRun.skip ?_)
    apply S.ret rr24
    case hx => repeat (first | exact ResAt.nil | apply ResAt.tmp rfl | apply ResAt.cellA rfl (by (repeat' (first | exact AHeap.set_same _ _ _)); first | done | fail) (by rfl))
    exact ⟨_, h, .refl _, (by repeat (first | exact AHeap.le.refl _ | refine AHeap.le.set ?_ _ (by (repeat' (first | assumption | exact AHeap.z1 ‹_› | exact AHeap.z2 ‹_›)); first | done | fail))), rfl, rfl⟩
abbrev groupsA (l : List (List Row)) : AV := .sl 1 (l.map fun g => [rowsA g]) .ro
def r10l1 : RCode :=
  (.seq (.region [
    ⟨(some 36), none, .act, .bin .lss (.tmp 35) (.tmp 34)⟩])
  (.seq (.cond (.tmp 36)
   .skip
   (.exit 2))
  (.seq (.block 3
   (.seq (.region [
     ⟨(some 37), none, .act, .indexAddr 8 (.tmp 33) (.tmp 35)⟩,
     ⟨(some 38), none, .act, .load true 8 (.tmp 37)⟩,
     ⟨(some 15), none, .act, .alloc [(.int .i64 0), (.string ⟨#[]⟩), (.string ⟨#[]⟩), (.int .i64 0), (.int .i64 0), (.int .i64 0), (.string ⟨#[]⟩), (.slice none 0 0)]⟩,
     ⟨none, none, .act, .store 8 (.tmp 15) (.tmp 38)⟩])
   (.seq (.region [
     ⟨(some 40), none, .act, .load true 8 (.tmp 15)⟩,
     ⟨(some 41), none, .act, .mv (.tmp 12)⟩,
     ⟨(some 42), none, .act, .call 24 [(.tmp 40), (.tmp 41)]⟩,
     ⟨(some 39), none, .act, .mv (.tmp 42)⟩,
     ⟨(some 43), none, .act, .extract (.tmp 39) 0⟩,
     ⟨(some 44), none, .act, .extract (.tmp 39) 1⟩,
     ⟨(some 16), none, .act, .alloc [(.int .i64 0), (.int .i64 0), (.string ⟨#[]⟩)]⟩,
     ⟨none, none, .act, .store 3 (.tmp 16) (.tmp 43)⟩,
     ⟨(some 17), none, .act, .mv (.tmp 44)⟩])
   (.seq (.seq (.region [
     ⟨(some 45), none, .act, .mv (.tmp 17)⟩,
     ⟨(some 46), none, .act, .eq true .int (.tmp 45) (.const (.int .i64 0))⟩])
   (.cond (.tmp 46)
    (.seq (.region [
      ⟨(some 47), none, .act, .mv (.tmp 17)⟩,
      ⟨(some 6), none, .act, .mv (.const (.slice none 0 0))⟩,
      ⟨(some 7), none, .act, .mv (.tmp 47)⟩])
    .ret)
    .skip))
   (.region [
     ⟨(some 48), none, .act, .mv (.tmp 13)⟩,
     ⟨(some 49), none, .act, .load true 3 (.tmp 16)⟩,
     ⟨(some 50), none, .act, .buildSl 3 [(.int .i64 0), (.int .i64 0), (.string ⟨#[]⟩)] 1 [(0, (.tmp 49))]⟩,
     ⟨(some 51), none, .act, .append 3 32 [(.int .i64 0), (.int .i64 0), (.string ⟨#[]⟩)] (.tmp 48) (.tmp 50)⟩,
     ⟨(some 13), none, .act, .mv (.tmp 51)⟩])))))
  (.region [
    ⟨(some 52), none, .act, .bin .add (.tmp 35) (.const (.int .i64 1))⟩,
    ⟨(some 35), none, .act, .mv (.tmp 52)⟩]))))
def r10l0 : RCode :=
  (.seq (.region [
    ⟨(some 30), none, .act, .bin .lss (.tmp 29) (.tmp 28)⟩])
  (.seq (.cond (.tmp 30)
   .skip
   (.exit 0))
  (.seq (.block 1
   (.seq (.region [
     ⟨(some 31), none, .act, .indexAddr 1 (.tmp 27) (.tmp 29)⟩,
     ⟨(some 32), none, .act, .load false 1 (.tmp 31)⟩,
     ⟨(some 12), none, .act, .mv (.tmp 32)⟩])
   (.seq (.region [
     ⟨(some 13), none, .act, .mv (.const (.slice none 0 0))⟩])
   (.seq (.seq (.region [
     ⟨(some 33), none, .act, .mv (.tmp 2)⟩,
     ⟨(some 34), none, .act, .len (.tmp 33)⟩,
     ⟨(some 35), none, .act, .mv (.const (.int .i64 0))⟩])
   (.block 2
    (.loop r10l1)))
   (.region [
     ⟨(some 53), none, .act, .mv (.tmp 10)⟩,
     ⟨(some 54), none, .act, .mv (.tmp 13)⟩,
     ⟨(some 55), none, .act, .buildSl 1 [(.slice none 0 0)] 1 [(0, (.tmp 54))]⟩,
     ⟨(some 56), none, .act, .append 1 24 [(.slice none 0 0)] (.tmp 53) (.tmp 55)⟩,
     ⟨(some 10), none, .act, .mv (.tmp 56)⟩])))))
  (.region [
    ⟨(some 57), none, .act, .bin .add (.tmp 29) (.const (.int .i64 1))⟩,
    ⟨(some 29), none, .act, .mv (.tmp 57)⟩]))))
def r10 : RCode :=
  (.seq (.region [
    ⟨(some 6), none, .act, .mv (.const (.slice none 0 0))⟩,
    ⟨(some 7), none, .act, .mv (.const (.int .i64 0))⟩])
  (.seq (.region [
    ⟨(some 19), none, .act, .mv (.tmp 0)⟩,
    ⟨(some 20), none, .act, .mv (.tmp 1)⟩,
    ⟨(some 21), none, .act, .call 23 [(.tmp 19), (.tmp 20)]⟩,
    ⟨(some 18), none, .act, .mv (.tmp 21)⟩,
    ⟨(some 22), none, .act, .extract (.tmp 18) 0⟩,
    ⟨(some 23), none, .act, .extract (.tmp 18) 1⟩,
    ⟨(some 8), none, .act, .mv (.tmp 22)⟩,
    ⟨(some 9), none, .act, .mv (.tmp 23)⟩])
  (.seq (.seq (.region [
    ⟨(some 24), none, .act, .mv (.tmp 9)⟩,
    ⟨(some 25), none, .act, .eq true .int (.tmp 24) (.const (.int .i64 0))⟩])
  (.cond (.tmp 25)
   (.seq (.region [
     ⟨(some 26), none, .act, .mv (.tmp 9)⟩,
     ⟨(some 6), none, .act, .mv (.const (.slice none 0 0))⟩,
     ⟨(some 7), none, .act, .mv (.tmp 26)⟩])
   .ret)
   .skip))
  (.seq (.region [
    ⟨(some 10), none, .act, .mv (.const (.slice none 0 0))⟩])
  (.seq (.seq (.region [
    ⟨(some 27), none, .act, .mv (.tmp 8)⟩,
    ⟨(some 28), none, .act, .len (.tmp 27)⟩,
    ⟨(some 29), none, .act, .mv (.const (.int .i64 0))⟩])
  (.block 0
   (.loop r10l0)))
  (.seq (.region [
    ⟨(some 58), none, .act, .mv (.tmp 10)⟩,
    ⟨(some 6), none, .act, .mv (.tmp 58)⟩,
    ⟨(some 7), none, .act, .mv (.const (.int .i64 0))⟩])
  .ret))))))
theorem res10 : ∃ c, Try.f10.body = some c ∧ resCode Try.prog 59 c = some r10 := ⟨_, rfl, by kernel_rfl⟩
theorem rr10 : resRes Try.prog Try.f10.results.toList = some [.tmp 6, .tmp 7] := by kernel_rfl
def r10k : RCode :=
  (.region [
     ⟨(some 53), none, .act, .mv (.tmp 10)⟩,
     ⟨(some 54), none, .act, .mv (.tmp 13)⟩,
     ⟨(some 55), none, .act, .buildSl 1 [(.slice none 0 0)] 1 [(0, (.tmp 54))]⟩,
     ⟨(some 56), none, .act, .append 1 24 [(.slice none 0 0)] (.tmp 53) (.tmp 55)⟩,
     ⟨(some 10), none, .act, .mv (.tmp 56)⟩])
theorem group_loop (gs : List (List Row)) (hl : gs.length ≤ 1000) (h₀ : AHeap) (k : List RT) (Q : AV → AHeap → Prop)
    (hk : ∀ c h, Grow h₀ h c → RRun Try.prog Try.f10 59 k (Env.get [(10, rowsC (gs.map fun g => [nV g.length]) c)]) h Q) : ∀ (m i : Nat) (c : Cap) (h : AHeap), i + m = gs.length → Grow h₀ h c →
    RRun Try.prog Try.f10 59 (.inLoop r10l0 :: .inBlock 0 :: k) (Env.get [(2, .sl 8 [[i64 20, str [], str [], i64 0, i64 0, i64 0, str [], exprs []]] .ro), (10, rowsC ((gs.take i).map fun g => [nV g.length]) c), (27, groupsA gs), (28, i64 gs.length), (29, i64 i)]) h Q := by
  intro m
  induction m with
  | zero =>
    intro i c h hi hg
    rw [List.take_of_length_le (by omega)]
    refine RRun.inLoop ?_
    repeat' (first | refine S.nilK ?_ | (refine S.op rfl ?_; first | ((first | refine S.lss rfl rfl ?_ ?_) <;> intro hlt <;> try (exfalso; omega))) | refine S.seq ?_ | refine S.region ?_ | refine S.condF rfl ?_ | refine RRun.exit rfl ?_)
    exact S.keep [10] rfl (hk c h hg)
  | succ m ih =>
    intro i c h hi hg
    have hie : i < gs.length := by omega
    have h1 : (gs.map fun g => [rowsA g])[((i : Nat) : Int).toNat]? = some [rowsA gs[i]] := by simp [hie]
    have h2 : ([[i64 20, str [], str [], i64 0, i64 0, i64 0, str [], exprs []]] : List (List AV))[(0 : Int).toNat]? = some [i64 20, str [], str [], i64 0, i64 0, i64 0, str [], exprs []] := rfl
    have hlen1 : ([[i64 20, str [], str [], i64 0, i64 0, i64 0, str [], exprs []]] : List (List AV)).length = 1 := rfl
    have c24 := fun h => over_count gs[i] h
    have hlen : (((gs.take i).map fun g => [nV g.length]).map fun r => [rowA r]).length = i := by simp; omega
    have hnext : (((gs.take i).map fun g => [nV g.length]).map fun r => [rowA r]) ++ [[rowA [nV gs[i].length]]] = (((gs.take (i + 1)).map fun g => [nV g.length]).map fun r => [rowA r]) := by
      rw [List.take_add_one, List.getElem?_eq_getElem hie, Option.toList_some, List.map_append, List.map_append, List.map_singleton, List.map_singleton]
    have hcell : ∀ n : Nat, [i64 1, i64 n, str []] = (nV n).cells := fun _ => rfl
    generalize gs[i] = g at h1 c24 hnext
    refine RRun.inLoop ?_
    repeat' (first | ((show RRunG _ _ _ (.code (.loop r10l1) :: _) _ _ _; refine RRun.loopIn ?_)) | ((show RRunG _ _ _ (.inLoop r10l1 :: _) _ _ _; refine RRun.inLoop ?_)) | refine S.nilK ?_ | (refine S.op rfl ?_; first | refine R.indexAddr rfl rfl (by omega) h1 ?_ | refine R.indexAddr rfl rfl (by omega) h2 ?_ | refine callS rfl rfl (c24 _) ?_ | refine R.mv rfl ?_ | refine R.loadR rfl rfl ?_ | refine R.load (by decide) rfl (by (repeat' (first | exact AHeap.set_same _ _ _)); first | done | fail) rfl ?_ | refine R.len rfl ?_ | refine R.extract rfl rfl ?_ | refine R.alloc rfl (fun b hb => ?_) | refine R.buildSl rfl rfl rfl (by decide) ?_ | ((first | refine S.lss rfl rfl ?_ ?_ | refine S.eqInt rfl rfl ?_ ?_) <;> intro hlt <;> try (exfalso; omega))) | (refine S.op0 rfl ?_; first | refine S.storeS rfl rfl rfl (by rfl) rfl (by first | decide | exact Nat.le_refl _ | exact Nat.le_of_ble_eq_true rfl) ?_) | refine S.seq ?_ | refine S.region ?_ | refine S.condT rfl ?_ | refine S.condF rfl ?_ | refine RRun.skip ?_ | refine RRun.block ?_)
    refine S.op rfl (S.appendG (h₀ := h) (ys := [(nV g.length).cells]) rfl (.of_le (by repeat (first | exact AHeap.le.refl _ | refine AHeap.le.set ?_ _ (by (repeat' (first | assumption | exact AHeap.z1 ‹_›)); first | done | fail)))) rfl .nil rfl (.sl _ _) (vals_one [nV g.length]) (by simp) (by simp) (fun c4 h4 hg4 _ => ?_))
    repeat' (first | ((show RRunG _ _ _ (.code r10k :: _) _ _ _; refine S.keep [2, 10, 13, 27, 28, 29] rfl (RRun.envs (.cons 2 (.refl _) (.cons 10 (.refl _) (.cons 13 (.toRo 3 [(nV g.length).cells] _) (.cons 27 (.refl _) (.cons 28 (.refl _) (.cons 29 (.refl _) .nil)))))) (S.drop hg4.le ?_)); refine Stop.h ?_)) | ((show RRunG _ _ _ (.inLoop r10l1 :: _) _ _ _; refine RRun.inLoop ?_)) | refine S.nilK ?_ | (refine S.op rfl ?_; first | refine R.mv rfl ?_ | refine S.addI rfl rfl (by omega) ?_ | ((first | refine S.lss rfl rfl ?_ ?_) <;> intro hlt <;> try (exfalso; omega))) | refine S.seq ?_ | refine S.region ?_ | refine S.condF rfl ?_ | refine RRun.inBlock ?_ | refine RRun.exit rfl ?_)
    refine ⟨?_⟩
    clear hg4
    repeat' (first | (refine S.op rfl ?_; first | refine R.mv rfl ?_ | refine R.buildSl rfl rfl rfl (by decide) ?_) | refine S.region ?_)
    refine S.op rfl (S.appendG rfl hg rfl (.sl _ _) rfl (.sl [[rowA [nV g.length]]] _) (row_one _) (by rw [hlen]; simp; omega) (by rw [hlen]; simp; omega) (fun c' h' hg' hbox => ?_))
    repeat' (first | refine S.nilK ?_ | (refine S.op rfl ?_; first | refine R.mv rfl ?_ | refine S.addI rfl rfl (by omega) ?_) | refine S.region ?_ | refine RRun.inBlock ?_)
    rw [hnext, show ((i : Int) + 1) = ((i + 1 : Nat) : Int) by omega]
    exact S.keep [2, 10, 27, 28, 29] rfl (ih (i + 1) _ _ (by omega) hg')
theorem group_spec (a0 a1 : AV) (gs : List (List Row)) (hl : gs.length ≤ 1000) (c23 : ∀ h, ACalls Try.prog 23 [a0, a1] h (fun x h' => x = .tu [groupsA gs, i64 0] ∧ h' = h)) (h : AHeap) :
    ACalls Try.prog 10 [a0, a1, .sl 8 [[i64 20, str [], str [], i64 0, i64 0, i64 0, str [], exprs []]] .ro] h (fun x h' => x = ansA (gs.map fun g => [nV g.length], 0) ∧ h' = h) := by
  obtain ⟨c', hc1, hc2⟩ := res10
  refine ACalls.weak (ACalls.enter Try.func10 hc1 Try.ntmps10 hc2 (Nat.le_of_ble_eq_true rfl) rfl ?_)
  have hlen : (gs.map fun g => [rowsA g]).length = gs.length := by simp
  repeat' (first | refine S.nilK ?_ | (refine S.op rfl ?_; first | refine callS rfl rfl (c23 _) ?_ | refine R.mv rfl ?_ | refine R.len rfl ?_ | refine R.extract rfl rfl ?_ | ((first | refine S.eqInt rfl rfl ?_ ?_) <;> intro hlt <;> try (exfalso; omega))) | refine S.seq ?_ | refine S.region ?_ | refine S.condF rfl ?_ | refine RRun.skip ?_ | refine RRun.block ?_)
  rw [hlen]
  refine RRun.loopIn (S.keep [2, 10, 27, 28, 29] rfl (RRun.envs (.cons 2 (.refl _) (.cons 10 (.nilSl 1 (c := .full) trivial) (.cons 27 (.refl _) (.cons 28 (.refl _) (.cons 29 (.refl _) .nil))))) (group_loop gs hl h _ _ (fun c h1 hg => ?_) gs.length 0 .full h (by omega) (Grow.start h))))
  repeat' (first | refine S.nilK ?_ | (refine S.op rfl ?_; first | refine R.mv rfl ?_) | refine S.seq ?_ | refine S.region ?_)
  apply S.ret rr10
  case hx => repeat (first | exact ResAt.nil | apply ResAt.tmp rfl)
  exact ⟨_, h, .tu (.cons (.toRo _ _ _) (.cons (.refl _) .nil)), hg.le, rfl, rfl⟩
def r23l0 : RCode :=
  (.seq (.region [
    ⟨(some 19), none, .act, .bin .lss (.tmp 18) (.tmp 17)⟩])
  (.seq (.cond (.tmp 19)
   .skip
   (.exit 0))
  (.seq (.block 1
   (.seq (.region [
     ⟨(some 20), none, .act, .indexAddr 1 (.tmp 16) (.tmp 18)⟩,
     ⟨(some 21), none, .act, .load false 1 (.tmp 20)⟩,
     ⟨(some 9), none, .act, .mv (.tmp 21)⟩])
   (.seq (.region [
     ⟨(some 23), none, .act, .mv (.tmp 1)⟩,
     ⟨(some 24), none, .act, .mv (.tmp 9)⟩,
     ⟨(some 25), none, .act, .call 25 [(.tmp 23), (.tmp 24)]⟩,
     ⟨(some 22), none, .act, .mv (.tmp 25)⟩,
     ⟨(some 26), none, .act, .extract (.tmp 22) 0⟩,
     ⟨(some 27), none, .act, .extract (.tmp 22) 1⟩,
     ⟨(some 10), none, .act, .mv (.tmp 26)⟩,
     ⟨(some 11), none, .act, .mv (.tmp 27)⟩])
   (.seq (.seq (.region [
     ⟨(some 28), none, .act, .mv (.tmp 11)⟩,
     ⟨(some 29), none, .act, .eq true .int (.tmp 28) (.const (.int .i64 0))⟩])
   (.cond (.tmp 29)
    (.seq (.region [
      ⟨(some 30), none, .act, .mv (.tmp 11)⟩,
      ⟨(some 4), none, .act, .mv (.const (.slice none 0 0))⟩,
      ⟨(some 5), none, .act, .mv (.tmp 30)⟩])
    .ret)
    .skip))
   (.seq (.region [
     ⟨(some 31), none, .act, .mv (.tmp 10)⟩,
     ⟨(some 32), none, .act, .call 33 [(.tmp 31)]⟩,
     ⟨(some 12), none, .act, .mv (.tmp 32)⟩])
   (.seq (.region [
     ⟨(some 34), none, .act, .mv (.tmp 7)⟩,
     ⟨(some 35), none, .act, .mv (.tmp 12)⟩,
     ⟨(some 36), none, .act, .lookup 9 (.int .i64 0) (.tmp 34) (.tmp 35) true⟩,
     ⟨(some 33), none, .act, .mv (.tmp 36)⟩,
     ⟨(some 37), none, .act, .extract (.tmp 33) 0⟩,
     ⟨(some 38), none, .act, .extract (.tmp 33) 1⟩,
     ⟨(some 13), none, .act, .mv (.tmp 37)⟩,
     ⟨(some 14), none, .act, .mv (.tmp 38)⟩])
   (.seq (.seq (.region [
     ⟨(some 39), none, .act, .mv (.tmp 14)⟩,
     ⟨(some 40), none, .act, .un .not (.tmp 39)⟩])
   (.cond (.tmp 40)
    (.seq (.region [
      ⟨(some 41), none, .act, .mv (.tmp 6)⟩,
      ⟨(some 42), none, .act, .len (.tmp 41)⟩,
      ⟨(some 13), none, .act, .mv (.tmp 42)⟩])
    (.seq (.region [
      ⟨(some 43), none, .act, .mv (.tmp 7)⟩,
      ⟨(some 44), none, .act, .mv (.tmp 12)⟩,
      ⟨(some 45), none, .act, .mv (.tmp 13)⟩,
      ⟨none, none, .act, .mapUpdate 9 (.tmp 43) (.tmp 44) (.tmp 45)⟩])
    (.region [
      ⟨(some 46), none, .act, .mv (.tmp 6)⟩,
      ⟨(some 47), none, .act, .buildSl 1 [(.slice none 0 0)] 1 [(0, (.const (.slice none 0 0)))]⟩,
      ⟨(some 48), none, .act, .append 1 24 [(.slice none 0 0)] (.tmp 46) (.tmp 47)⟩,
      ⟨(some 6), none, .act, .mv (.tmp 48)⟩])))
    .skip))
   (.region [
     ⟨(some 49), none, .act, .mv (.tmp 6)⟩,
     ⟨(some 50), none, .act, .mv (.tmp 13)⟩,
     ⟨(some 51), none, .act, .mv (.tmp 6)⟩,
     ⟨(some 52), none, .act, .mv (.tmp 13)⟩,
     ⟨(some 53), none, .act, .indexAddr 1 (.tmp 51) (.tmp 52)⟩,
     ⟨(some 54), none, .act, .load false 1 (.tmp 53)⟩,
     ⟨(some 55), none, .act, .mv (.tmp 9)⟩,
     ⟨(some 56), none, .act, .buildSl 1 [(.slice none 0 0)] 1 [(0, (.tmp 55))]⟩,
     ⟨(some 57), none, .act, .append 1 24 [(.slice none 0 0)] (.tmp 54) (.tmp 56)⟩,
     ⟨(some 58), none, .act, .indexAddr 1 (.tmp 49) (.tmp 50)⟩,
     ⟨none, none, .act, .store 1 (.tmp 58) (.tmp 57)⟩]))))))))
  (.region [
    ⟨(some 59), none, .act, .bin .add (.tmp 18) (.const (.int .i64 1))⟩,
    ⟨(some 18), none, .act, .mv (.tmp 59)⟩]))))
def r23 : RCode :=
  (.seq (.region [
    ⟨(some 4), none, .act, .mv (.const (.slice none 0 0))⟩,
    ⟨(some 5), none, .act, .mv (.const (.int .i64 0))⟩])
  (.seq (.region [
    ⟨(some 6), none, .act, .mv (.const (.slice none 0 0))⟩])
  (.seq (.region [
    ⟨(some 15), none, .act, .makeMap⟩,
    ⟨(some 7), none, .act, .mv (.tmp 15)⟩])
  (.seq (.seq (.region [
    ⟨(some 16), none, .act, .mv (.tmp 0)⟩,
    ⟨(some 17), none, .act, .len (.tmp 16)⟩,
    ⟨(some 18), none, .act, .mv (.const (.int .i64 0))⟩])
  (.block 0
   (.loop r23l0)))
  (.seq (.seq (.region [
    ⟨(some 60), none, .act, .mv (.tmp 1)⟩,
    ⟨(some 61), none, .act, .len (.tmp 60)⟩,
    ⟨(some 62), none, .act, .eq false .int (.tmp 61) (.const (.int .i64 0))⟩,
    ⟨(some 63), none, .act, .mv (.tmp 62)⟩,
    ⟨(some 64), (some (63, true)), .act, .mv (.tmp 6)⟩,
    ⟨(some 65), (some (63, true)), .act, .len (.tmp 64)⟩,
    ⟨(some 66), (some (63, true)), .act, .eq false .int (.tmp 65) (.const (.int .i64 0))⟩,
    ⟨(some 67), none, .act, .pick (.tmp 63) (.tmp 66) (.const (.bool false))⟩])
  (.cond (.tmp 67)
   (.region [
     ⟨(some 68), none, .act, .mv (.tmp 6)⟩,
     ⟨(some 69), none, .act, .buildSl 1 [(.slice none 0 0)] 1 [(0, (.const (.slice none 0 0)))]⟩,
     ⟨(some 70), none, .act, .append 1 24 [(.slice none 0 0)] (.tmp 68) (.tmp 69)⟩,
     ⟨(some 6), none, .act, .mv (.tmp 70)⟩])
   .skip))
  (.seq (.region [
    ⟨(some 71), none, .act, .mv (.tmp 6)⟩,
    ⟨(some 4), none, .act, .mv (.tmp 71)⟩,
    ⟨(some 5), none, .act, .mv (.const (.int .i64 0))⟩])
  .ret))))))
theorem res23 : ∃ c, Try.f23.body = some c ∧ resCode Try.prog 72 c = some r23 := ⟨_, rfl, by kernel_rfl⟩
theorem rr23 : resRes Try.prog Try.f23.results.toList = some [.tmp 4, .tmp 5] := by kernel_rfl
theorem groups_nil (h : AHeap) : ACalls Try.prog 23 [.v (.slice none 0 0), .v (.slice none 0 0)] h (fun x h' => x = .tu [groupsA [[]], i64 0] ∧ h' = h) := by
  obtain ⟨c', hc1, hc2⟩ := res23
  refine ACalls.weak (ACalls.enter Try.func23 hc1 Try.ntmps23 hc2 (Nat.le_of_ble_eq_true rfl) rfl ?_)
  repeat' (first | ((show RRunG _ _ _ (.code (.loop r23l0) :: _) _ _ _; refine RRun.loopIn ?_)) | ((show RRunG _ _ _ (.inLoop r23l0 :: _) _ _ _; refine RRun.inLoop ?_)) | refine S.nilK ?_ | (refine S.op rfl ?_; first | refine R.makeMap rfl (fun b hb => ?_) | refine R.mv rfl ?_ | refine R.pickT rfl rfl ?_ | refine R.lenA rfl ?_ | refine R.buildSl rfl rfl rfl (by decide) ?_ | ((first | refine S.lss rfl rfl ?_ ?_ | refine S.eqInt rfl rfl ?_ ?_) <;> intro hlt <;> try (exfalso; omega))) | refine S.seq ?_ | refine S.region ?_ | refine S.condT rfl ?_ | refine S.condF rfl ?_ | refine RRun.block ?_ | refine RRun.exit rfl ?_)
  refine S.op rfl (S.appendG (h₀ := h) (ys := [[.v (.slice none 0 0)]]) rfl (.of_le (by repeat (first | exact AHeap.le.refl _ | refine AHeap.le.set ?_ _ (by (repeat' (first | assumption)); first | done | fail)))) rfl .nil rfl (.sl _ _) (by intro e he a ha; simp at he; subst he; simp at ha; subst ha; rfl) (by simp) (by simp) (fun c4 h4 hg4 _ => ?_))
  repeat' (first | refine S.nilK ?_ | (refine S.op rfl ?_; first | refine R.mv rfl ?_) | refine S.seq ?_ | refine S.region ?_)
  apply S.ret rr23
  case hx => repeat (first | exact ResAt.nil | apply ResAt.tmp rfl)
  refine ⟨_, h, .tu (.cons (.trans (.sl (es' := [[rowsA []]]) ?_ rfl ?_) (.toRo _ _ _)) (.cons (.refl _) .nil)), hg4.le, rfl, rfl⟩
  · exact .cons (.nilSl 1 (c := .ro) trivial) .nil
  · intro e he; simp at he; subst he; rfl
def r7 : RCode :=
  (.seq (.region [
    ⟨(some 0), none, .act, .mv (.const (.bool false))⟩])
  (.seq (.region [
    ⟨(some 4), none, .act, .build [(.int .i64 0), (.string ⟨#[]⟩), (.string ⟨#[]⟩), (.int .i64 0), (.int .i64 0), (.int .i64 0), (.string ⟨#[]⟩), (.slice none 0 0)] [(0, 1, (.const (.int .i64 20)))]⟩,
    ⟨(some 5), none, .act, .buildSl 8 [(.int .i64 0), (.string ⟨#[]⟩), (.string ⟨#[]⟩), (.int .i64 0), (.int .i64 0), (.int .i64 0), (.string ⟨#[]⟩), (.slice none 0 0)] 1 [(0, (.tmp 4))]⟩,
    ⟨(some 6), none, .act, .call 10 [(.const (.slice none 0 0)), (.const (.slice none 0 0)), (.tmp 5)]⟩,
    ⟨(some 3), none, .act, .mv (.tmp 6)⟩,
    ⟨(some 7), none, .act, .extract (.tmp 3) 0⟩,
    ⟨(some 8), none, .act, .extract (.tmp 3) 1⟩,
    ⟨(some 1), none, .act, .mv (.tmp 7)⟩,
    ⟨(some 2), none, .act, .mv (.tmp 8)⟩])
  (.seq (.region [
    ⟨(some 9), none, .act, .mv (.tmp 2)⟩,
    ⟨(some 10), none, .act, .eq false .int (.tmp 9) (.const (.int .i64 0))⟩,
    ⟨(some 11), none, .act, .mv (.tmp 10)⟩,
    ⟨(some 12), (some (11, true)), .act, .mv (.tmp 1)⟩,
    ⟨(some 13), (some (11, true)), .act, .len (.tmp 12)⟩,
    ⟨(some 14), (some (11, true)), .act, .eq false .int (.tmp 13) (.const (.int .i64 1))⟩,
    ⟨(some 15), none, .act, .pick (.tmp 11) (.tmp 14) (.const (.bool false))⟩,
    ⟨(some 16), none, .act, .mv (.tmp 15)⟩,
    ⟨(some 17), (some (16, true)), .act, .mv (.tmp 1)⟩,
    ⟨(some 18), (some (16, true)), .act, .indexAddr 1 (.tmp 17) (.const (.int .i64 0))⟩,
    ⟨(some 19), (some (16, true)), .act, .load false 1 (.tmp 18)⟩,
    ⟨(some 20), (some (16, true)), .act, .len (.tmp 19)⟩,
    ⟨(some 21), (some (16, true)), .act, .eq false .int (.tmp 20) (.const (.int .i64 1))⟩,
    ⟨(some 22), none, .act, .pick (.tmp 16) (.tmp 21) (.const (.bool false))⟩,
    ⟨(some 23), none, .act, .mv (.tmp 22)⟩,
    ⟨(some 24), (some (23, true)), .act, .mv (.tmp 1)⟩,
    ⟨(some 25), (some (23, true)), .act, .indexAddr 1 (.tmp 24) (.const (.int .i64 0))⟩,
    ⟨(some 26), (some (23, true)), .act, .load false 1 (.tmp 25)⟩,
    ⟨(some 27), (some (23, true)), .act, .indexAddr 3 (.tmp 26) (.const (.int .i64 0))⟩,
    ⟨(some 28), (some (23, true)), .act, .load true 3 (.tmp 27)⟩,
    ⟨(some 29), (some (23, true)), .act, .build [(.int .i64 0), (.int .i64 0), (.string ⟨#[]⟩)] [(0, 1, (.const (.int .i64 1)))]⟩,
    ⟨(some 30), (some (23, true)), .act, .eq false (.agg [(0, .int), (1, .int), (2, .str)]) (.tmp 28) (.tmp 29)⟩,
    ⟨(some 31), none, .act, .pick (.tmp 23) (.tmp 30) (.const (.bool false))⟩,
    ⟨(some 0), none, .act, .mv (.tmp 31)⟩])
  .ret)))
theorem res7 : ∃ c, Try.f7.body = some c ∧ resCode Try.prog 32 c = some r7 := ⟨_, rfl, by kernel_rfl⟩
theorem rr7 : resRes Try.prog Try.f7.results.toList = some [.tmp 0] := by kernel_rfl
theorem awake_spec (h : AHeap) : ACalls Try.prog 7 [] h (fun x h' => x = bl true ∧ h' = h) := by
  have c10 : ∀ h, ACalls Try.prog 10 [.v (.slice none 0 0), .v (.slice none 0 0), .sl 8 [[i64 20, str [], str [], i64 0, i64 0, i64 0, str [], .v (.slice none 0 0)]] .full] h (fun x h' => x = .tu [.sl 1 [[.sl 3 [[i64 1, i64 0, str []]] .ro]] .ro, i64 0] ∧ h' = h) := fun h =>
    ACalls.args (group_spec _ _ [[]] (by decide) groups_nil h) (.cons (.refl _) (.cons (.refl _) (.cons (.trans (.sl (es' := [[i64 20, str [], str [], i64 0, i64 0, i64 0, str [], exprs []]]) (.cons (.refl _) (.cons (.refl _) (.cons (.refl _) (.cons (.refl _) (.cons (.refl _) (.cons (.refl _) (.cons (.refl _) (.cons (.nilSl 8 (c := .ro) trivial) .nil)))))))) rfl (by intro e he; simp at he; subst he; rfl)) (.toRo _ _ _)) .nil)))
  have h1 : ([[.sl 3 [[i64 1, i64 0, str []]] .ro]] : List (List AV))[(0 : Int).toNat]? = some [.sl 3 [[i64 1, i64 0, str []]] .ro] := rfl
  have h2 : ([[i64 1, i64 0, str []]] : List (List AV))[(0 : Int).toNat]? = some [i64 1, i64 0, str []] := rfl
  have hlen : ([[.sl 3 [[i64 1, i64 0, str []]] .ro]] : List (List AV)).length = 1 := rfl
  have hlen2 : ([[i64 1, i64 0, str []]] : List (List AV)).length = 1 := rfl
  have hag := same_agg ⟨1, 0, []⟩
  simp only at hag
  obtain ⟨c', hc1, hc2⟩ := res7
  refine ACalls.weak (ACalls.enter Try.func7 hc1 Try.ntmps7 hc2 (Nat.le_of_ble_eq_true rfl) rfl ?_)
  repeat' (first | refine S.nilK ?_ | (refine S.op rfl ?_; first | refine callS rfl rfl (c10 _) ?_ | refine R.indexAddr rfl rfl (by omega) h1 ?_ | refine R.indexAddr rfl rfl (by omega) h2 ?_ | refine R.eqAgg (xs := [.int .i64 1, .int .i64 0, .string ⟨#[]⟩]) (ys := [.int .i64 1, .int .i64 0, .string ⟨#[]⟩]) rfl rfl hag ?_ | refine R.mv rfl ?_ | refine R.loadR rfl rfl ?_ | refine R.pickT rfl rfl ?_ | refine R.len rfl ?_ | refine R.extract rfl rfl ?_ | refine R.build rfl rfl ?_ | refine R.buildSl rfl rfl rfl (by decide) ?_ | ((first | refine S.eqInt rfl rfl ?_ ?_) <;> intro hlt <;> try (exfalso; omega))) | refine S.seq ?_ | refine S.region ?_)
  apply S.ret rr7
  case hx => repeat (first | exact ResAt.nil | apply ResAt.tmp rfl)
  exact ⟨_, h, .refl _, (by repeat (first | exact AHeap.le.refl _)), rfl, rfl⟩
end Go.Proofs.Ythadifboeggnpaa

namespace Go.Proofs.Ythadifboeggnpaa
open Go.Av
structure WO {α : Type} (f : α → α → Int) : Prop where
  anti : ∀ a b, f a b = - f b a
  tr : ∀ a b c, f a b ≤ 0 → f b c ≤ 0 → f a c ≤ 0
  sm : ∀ a b, f a b = -1 ∨ f a b = 0 ∨ f a b = 1
theorem WO.sw {α : Type} {f : α → α → Int} (h : WO f) : St.SW (fun a b => decide (f a b < 0)) where
  irr := fun a => decide_eq_false (by have := h.anti a a; omega)
  tr := fun a b c h1 h2 => by
    have h1 := of_decide_eq_true h1
    have h2 := of_decide_eq_true h2
    refine decide_eq_true ?_
    rcases (show f a c < 0 ∨ 0 ≤ f a c by omega) with h3 | h3
    · exact h3
    · have h4 := h.anti a c
      have h5 := h.tr c a b (by omega) (by omega)
      have h6 := h.anti b c
      omega
  neg := fun a b c h1 h2 => by
    have h1 := of_decide_eq_false h1
    have h2 := of_decide_eq_false h2
    refine decide_eq_false ?_
    have h3 := h.anti a b
    have h4 := h.anti b c
    have h5 := h.tr c b a (by omega) (by omega)
    have h6 := h.anti a c
    omega
theorem WO.lex {α : Type} {f g : α → α → Int} (hf : WO f) (hg : WO g) : WO (fun a b => if f a b ≠ 0 then f a b else g a b) where
  anti := fun a b => by
    have h1 := hf.anti a b
    have h2 := hg.anti a b
    by_cases h : f a b = 0
    · rw [if_neg (by simpa using h), if_neg (by simp; omega)]; exact h2
    · rw [if_pos h, if_pos (by omega)]; exact h1
  tr := fun a b c h1 h2 => by
    have a1 := hf.anti a b
    have a2 := hf.anti b c
    have a3 := hf.anti a c
    have t1 := hf.tr a b c
    have t2 := hf.tr b c a
    have t3 := hf.tr c a b
    have g1 := hg.tr a b c
    by_cases e1 : f a b = 0
    · rw [if_neg (by simpa using e1)] at h1
      by_cases e2 : f b c = 0
      · rw [if_neg (by simpa using e2)] at h2
        by_cases e3 : f a c = 0
        · rw [if_neg (by simpa using e3)]; exact g1 h1 h2
        · rw [if_pos e3]; exact t1 (by omega) (by omega)
      · rw [if_pos e2] at h2
        by_cases e3 : f a c = 0
        · exfalso; have := t3 (by omega) (by omega); omega
        · rw [if_pos e3]; exact t1 (by omega) h2
    · rw [if_pos e1] at h1
      by_cases e2 : f b c = 0
      · by_cases e3 : f a c = 0
        · exfalso; have := t2 (by omega) (by omega); omega
        · rw [if_pos e3]; exact t1 h1 (by omega)
      · rw [if_pos e2] at h2
        by_cases e3 : f a c = 0
        · exfalso; have := t2 (by omega) (by omega); omega
        · rw [if_pos e3]; exact t1 h1 h2
  sm := fun a b => by
    have h1 := hf.sm a b
    have h2 := hg.sm a b
    by_cases h : f a b = 0
    · rw [if_neg (by simpa using h)]; exact h2
    · rw [if_pos h]; exact h1
theorem WO.neg {α : Type} {f : α → α → Int} (hf : WO f) : WO (fun a b => - f a b) where
  anti := fun a b => by have := hf.anti a b; omega
  tr := fun a b c h1 h2 => by
    have a1 := hf.anti a b
    have a2 := hf.anti b c
    have a3 := hf.anti a c
    have := hf.tr c b a (by omega) (by omega)
    omega
  sm := fun a b => by have := hf.sm a b; omega
theorem WO.map {α β : Type} {f : β → β → Int} (hf : WO f) (k : α → β) : WO (fun a b => f (k a) (k b)) := ⟨fun a b => hf.anti _ _, fun a b c => hf.tr _ _ _, fun a b => hf.sm _ _⟩
theorem WO.zero {α : Type} : WO (fun _ _ : α => 0) := ⟨fun _ _ => rfl, fun _ _ _ _ _ => Int.le_refl _, fun _ _ => .inr (.inl rfl)⟩
theorem cmpI_wo : WO cmpI where
  anti := fun a b => by unfold cmpI; repeat' split
                        all_goals omega
  tr := fun a b c h1 h2 => by
    unfold cmpI at *
    repeat' split
    all_goals (repeat' split at h1) <;> (repeat' split at h2) <;> omega
  sm := fun a b => by unfold cmpI; repeat' split
                      all_goals simp
theorem cb_anti : ∀ (a b : List UInt8), Lib.compareBytes a b = - Lib.compareBytes b a
  | [], [] => by simp [Lib.compareBytes]
  | [], _ :: _ => by simp [Lib.compareBytes]
  | _ :: _, [] => by simp [Lib.compareBytes]
  | x :: a, y :: b => by
    have ih := cb_anti a b
    simp only [Lib.compareBytes, UInt8.lt_iff_toNat_lt]
    repeat' split
    all_goals omega
theorem cb_sm : ∀ (a b : List UInt8), Lib.compareBytes a b = -1 ∨ Lib.compareBytes a b = 0 ∨ Lib.compareBytes a b = 1
  | [], [] => by simp [Lib.compareBytes]
  | [], _ :: _ => by simp [Lib.compareBytes]
  | _ :: _, [] => by simp [Lib.compareBytes]
  | x :: a, y :: b => by
    have ih := cb_sm a b
    simp only [Lib.compareBytes]
    repeat' split
    all_goals first | exact ih | simp
theorem cb_tr : ∀ (a b c : List UInt8), Lib.compareBytes a b ≤ 0 → Lib.compareBytes b c ≤ 0 → Lib.compareBytes a c ≤ 0
  | [], _, [], _, _ => by simp [Lib.compareBytes]
  | [], _, _ :: _, _, _ => by simp [Lib.compareBytes]
  | _ :: _, [], _, h, _ => by simp [Lib.compareBytes] at h
  | _ :: _, _ :: _, [], _, h => by simp [Lib.compareBytes] at h
  | x :: a, y :: b, z :: c, h1, h2 => by
    have ih := cb_tr a b c
    simp only [Lib.compareBytes, UInt8.lt_iff_toNat_lt] at *
    repeat' split
    all_goals (repeat' split at h1) <;> (repeat' split at h2) <;> omega
theorem ordV_wo : WO ordV where
  anti := fun a b => by
    have h1 := cmpI_wo.anti a.n b.n
    have h2 := cb_anti a.s b.s
    have h3 := cmpI_wo.anti a.kind b.kind
    unfold ordV
    by_cases e : a.kind = b.kind
    · rw [if_pos e, if_pos e.symm, e]
      by_cases e1 : b.kind = 1
      · rw [if_pos e1, if_pos e1]; exact h1
      · rw [if_neg e1, if_neg e1]
        by_cases e2 : b.kind = 2
        · rw [if_pos e2, if_pos e2]; exact h2
        · rw [if_neg e2, if_neg e2]; rfl
    · rw [if_neg e, if_neg (Ne.symm e)]; exact h3
  tr := fun a b c h1 h2 => by
    have t1 := cmpI_wo.tr a.n b.n c.n
    have t2 := cb_tr a.s b.s c.s
    unfold ordV at *
    by_cases e : a.kind = b.kind
    · rw [if_pos e, e] at h1
      rw [e]
      by_cases e' : b.kind = c.kind
      · rw [if_pos e'] at h2 ⊢
        by_cases e1 : b.kind = 1
        · rw [if_pos e1] at h1 h2 ⊢; exact t1 h1 h2
        · rw [if_neg e1] at h1 h2 ⊢
          by_cases e2 : b.kind = 2
          · rw [if_pos e2] at h1 h2 ⊢; exact t2 h1 h2
          · rw [if_neg e2]; exact Int.le_refl _
      · rw [if_neg e'] at h2 ⊢; exact h2
    · rw [if_neg e] at h1
      by_cases e' : b.kind = c.kind
      · rw [← e', if_neg e]; exact h1
      · rw [if_neg e'] at h2
        have t3 := cmpI_wo.tr a.kind b.kind c.kind h1 h2
        by_cases e3 : a.kind = c.kind
        · exfalso
          unfold cmpI at h1 h2
          rw [e3] at h1 e
          split at h1 <;> split at h2 <;> (try split at h1) <;> (try split at h2) <;> omega
        · rw [if_neg e3]; exact t3
  sm := fun a b => by
    unfold ordV
    split
    · split
      · exact cmpI_wo.sm _ _
      · split
        · exact cb_sm _ _
        · simp
    · exact cmpI_wo.sm _ _
def atF (r : Row) (n : Int) : Val := if n < 1 ∨ (r.length : Int) < n then vz else (r[(n - 1).toNat]?).getD vz
def cmpR : List (Int × Bool) → Row → Row → Int
  | [], _, _ => 0
  | p :: l, x, y => if (if p.2 = true then - ordV (atF x p.1) (atF y p.1) else ordV (atF x p.1) (atF y p.1)) ≠ 0 then (if p.2 = true then - ordV (atF x p.1) (atF y p.1) else ordV (atF x p.1) (atF y p.1)) else cmpR l x y
theorem cmpR_wo : ∀ (l : List (Int × Bool)), WO (cmpR l)
  | [] => WO.zero
  | p :: l => by
    have ih := cmpR_wo l
    have h0 := ordV_wo.map (fun r : Row => atF r p.1)
    obtain ⟨n, b⟩ := p
    cases b with
    | false => exact h0.lex ih
    | true => exact h0.neg.lex ih
def r31 : RCode :=
  (.seq (.region [
    ⟨(some 4), none, .act, .alloc [(.int .i64 0), (.int .i64 0), (.string ⟨#[]⟩)]⟩])
  (.seq (.seq (.region [
    ⟨(some 5), none, .act, .mv (.tmp 1)⟩,
    ⟨(some 6), none, .act, .bin .lss (.tmp 5) (.const (.int .i64 1))⟩,
    ⟨(some 7), none, .act, .mv (.tmp 6)⟩,
    ⟨(some 8), (some (7, false)), .act, .mv (.tmp 1)⟩,
    ⟨(some 9), (some (7, false)), .act, .mv (.tmp 0)⟩,
    ⟨(some 10), (some (7, false)), .act, .len (.tmp 9)⟩,
    ⟨(some 11), (some (7, false)), .act, .bin .gtr (.tmp 8) (.tmp 10)⟩,
    ⟨(some 12), none, .act, .pick (.tmp 7) (.const (.bool true)) (.tmp 11)⟩])
  (.cond (.tmp 12)
   (.seq (.region [
     ⟨(some 13), none, .act, .build [(.int .i64 0), (.int .i64 0), (.string ⟨#[]⟩)] []⟩,
     ⟨none, none, .act, .store 3 (.tmp 4) (.tmp 13)⟩])
   .ret)
   .skip))
  (.seq (.region [
    ⟨(some 14), none, .act, .mv (.tmp 0)⟩,
    ⟨(some 15), none, .act, .mv (.tmp 1)⟩,
    ⟨(some 16), none, .act, .bin .sub (.tmp 15) (.const (.int .i64 1))⟩,
    ⟨(some 17), none, .act, .indexAddr 3 (.tmp 14) (.tmp 16)⟩,
    ⟨(some 18), none, .act, .load true 3 (.tmp 17)⟩,
    ⟨none, none, .act, .store 3 (.tmp 4) (.tmp 18)⟩])
  .ret)))
theorem res31 : ∃ c, Try.f31.body = some c ∧ resCode Try.prog 19 c = some r31 := ⟨_, rfl, by kernel_rfl⟩
theorem rr31 : resRes Try.prog Try.f31.results.toList = some [.cell 4 true 3] := by kernel_rfl
theorem at_spec (r : Row) (n : Int) (hn : Fits n) (h : AHeap) : ACalls Try.prog 31 [rowA r, i64 n] h (fun x h' => x = .ag (atF r n).cells ∧ h' = h) := by
  have hlen : (r.map Val.cells).length = r.length := by simp
  obtain ⟨c', hc1, hc2⟩ := res31
  refine ACalls.weak (ACalls.enter Try.func31 hc1 Try.ntmps31 hc2 (Nat.le_of_ble_eq_true rfl) rfl ?_)
  unfold atF
  by_cases h0 : n < 1 ∨ (r.length : Int) < n
  · rw [if_pos h0]
    repeat' (first | refine S.nilK ?_ | (refine S.op rfl ?_; first | refine R.mv rfl ?_ | refine R.pickT rfl rfl ?_ | refine R.pickF rfl rfl ?_ | refine R.len rfl ?_ | refine R.alloc rfl (fun b hb => ?_) | refine R.build rfl rfl ?_ | ((first | refine S.lss rfl rfl ?_ ?_ | refine S.gtr rfl rfl ?_ ?_) <;> intro hlt <;> try (exfalso; omega))) | (refine S.op0 rfl ?_; first | refine S.storeS rfl rfl rfl (by rfl) rfl (by first | decide | exact Nat.le_refl _ | exact Nat.le_of_ble_eq_true rfl) ?_) | refine S.skip rfl ?_ | refine S.seq ?_ | refine S.region ?_ | refine S.condT rfl ?_)
    all_goals
      apply S.ret rr31
      case hx => repeat (first | exact ResAt.nil | apply ResAt.cellA rfl (by (repeat' (first | exact AHeap.set_same _ _ _)); first | done | fail) (by rfl))
      exact ⟨_, h, .refl _, (by repeat (first | exact AHeap.le.refl _ | refine AHeap.le.set ?_ _ (by (repeat' (first | assumption)); first | done | fail))), rfl, rfl⟩
  · rw [if_neg h0]
    have hlt2 : (n - 1).toNat < r.length := by omega
    have h1 : (r.map Val.cells)[(n - 1).toNat]? = some [i64 r[(n - 1).toNat].kind, i64 r[(n - 1).toNat].n, str r[(n - 1).toNat].s] := by
      rw [List.getElem?_map, List.getElem?_eq_getElem hlt2]; rfl
    rw [List.getElem?_eq_getElem hlt2, Option.getD_some]
    generalize r[(n - 1).toNat] = v at h1 ⊢
    repeat' (first | refine S.nilK ?_ | (refine S.op rfl ?_; first | refine R.indexAddr rfl rfl (by omega) h1 ?_ | refine R.mv rfl ?_ | refine R.loadR rfl rfl ?_ | refine S.subI rfl rfl (by omega) ?_ | refine R.pickF rfl rfl ?_ | refine R.len rfl ?_ | refine R.alloc rfl (fun b hb => ?_) | ((first | refine S.lss rfl rfl ?_ ?_ | refine S.gtr rfl rfl ?_ ?_) <;> intro hlt <;> try (exfalso; omega))) | (refine S.op0 rfl ?_; first | refine S.storeS rfl rfl rfl (by rfl) rfl (by first | decide | exact Nat.le_refl _ | exact Nat.le_of_ble_eq_true rfl) ?_) | refine S.seq ?_ | refine S.region ?_ | refine S.condF rfl ?_ | refine RRun.skip ?_)
    apply S.ret rr31
    case hx => repeat (first | exact ResAt.nil | apply ResAt.cellA rfl (by (repeat' (first | exact AHeap.set_same _ _ _)); first | done | fail) (by rfl))
    exact ⟨_, h, .refl _, (by repeat (first | exact AHeap.le.refl _ | refine AHeap.le.set ?_ _ (by (repeat' (first | assumption)); first | done | fail))), rfl, rfl⟩
def r30l0 : RCode :=
  (.seq (.region [
    ⟨(some 13), none, .act, .bin .lss (.tmp 12) (.tmp 11)⟩])
  (.seq (.cond (.tmp 13)
   .skip
   (.exit 0))
  (.seq (.block 1
   (.seq (.region [
     ⟨(some 14), none, .act, .mv (.tmp 12)⟩,
     ⟨(some 5), none, .act, .mv (.tmp 14)⟩])
   (.seq (.region [
     ⟨(some 15), none, .pure, .mv (.tmp 0)⟩,
     ⟨(some 16), none, .pure, .mv (.tmp 5)⟩,
     ⟨(some 17), none, .pure, .indexAddr 3 (.tmp 15) (.tmp 16)⟩,
     ⟨(some 18), none, .read, .load true 3 (.tmp 17)⟩,
     ⟨(some 19), none, .pure, .mv (.tmp 1)⟩,
     ⟨(some 20), none, .pure, .mv (.tmp 5)⟩,
     ⟨(some 21), none, .pure, .indexAddr 3 (.tmp 19) (.tmp 20)⟩,
     ⟨(some 22), none, .read, .load true 3 (.tmp 21)⟩,
     ⟨(some 23), none, .act, .call 38 [(.tmp 18), (.tmp 22)]⟩,
     ⟨(some 6), none, .pure, .mv (.tmp 23)⟩])
   (.seq (.region [
     ⟨(some 24), none, .act, .mv (.tmp 6)⟩,
     ⟨(some 25), none, .act, .eq true .int (.tmp 24) (.const (.int .i64 0))⟩])
   (.cond (.tmp 25)
    (.seq (.region [
      ⟨(some 26), none, .act, .mv (.tmp 6)⟩,
      ⟨(some 4), none, .act, .mv (.tmp 26)⟩])
    .ret)
    .skip)))))
  (.region [
    ⟨(some 27), none, .act, .bin .add (.tmp 12) (.const (.int .i64 1))⟩,
    ⟨(some 12), none, .act, .mv (.tmp 27)⟩]))))
def r30 : RCode :=
  (.seq (.region [
    ⟨(some 4), none, .act, .mv (.const (.int .i64 0))⟩])
  (.seq (.seq (.region [
    ⟨(some 7), none, .act, .mv (.tmp 0)⟩,
    ⟨(some 8), none, .act, .len (.tmp 7)⟩,
    ⟨(some 9), none, .act, .mv (.tmp 1)⟩,
    ⟨(some 10), none, .act, .len (.tmp 9)⟩,
    ⟨(some 11), none, .act, .minmax false [(.tmp 8), (.tmp 10)]⟩,
    ⟨(some 12), none, .act, .mv (.const (.int .i64 0))⟩])
  (.block 0
   (.loop r30l0)))
  (.seq (.region [
    ⟨(some 28), none, .act, .mv (.tmp 0)⟩,
    ⟨(some 29), none, .act, .len (.tmp 28)⟩,
    ⟨(some 30), none, .act, .mv (.tmp 1)⟩,
    ⟨(some 31), none, .act, .len (.tmp 30)⟩,
    ⟨(some 32), none, .act, .call 39 [(.tmp 29), (.tmp 31)]⟩,
    ⟨(some 4), none, .act, .mv (.tmp 32)⟩])
  .ret)))
theorem res30 : ∃ c, Try.f30.body = some c ∧ resCode Try.prog 33 c = some r30 := ⟨_, rfl, by kernel_rfl⟩
theorem rr30 : resRes Try.prog Try.f30.results.toList = some [.tmp 4] := by kernel_rfl
theorem cmp1_spec (v w : Val) (h : AHeap) : ACalls Try.prog 30 [.sl 3 [v.cells] .full, .sl 3 [w.cells] .full] h (fun x h' => x = i64 (ordV v w) ∧ h' = h) := by
  have c38 := fun h => order_spec v w h
  have c39 := fun h => cmpInt_spec 1 1 h
  obtain ⟨c', hc1, hc2⟩ := res30
  refine ACalls.weak (ACalls.enter Try.func30 hc1 Try.ntmps30 hc2 (Nat.le_of_ble_eq_true rfl) rfl ?_)
  obtain ⟨vk, vn, vs⟩ := v
  obtain ⟨wk, wn, ws⟩ := w
  generalize ordV ⟨vk, vn, vs⟩ ⟨wk, wn, ws⟩ = o at c38 ⊢
  have h1 : ([Val.cells ⟨vk, vn, vs⟩] : List (List AV))[(0 : Int).toNat]? = some [i64 vk, i64 vn, str vs] := rfl
  have h2 : ([Val.cells ⟨wk, wn, ws⟩] : List (List AV))[(0 : Int).toNat]? = some [i64 wk, i64 wn, str ws] := rfl
  have hl1 : ([Val.cells ⟨vk, vn, vs⟩] : List (List AV)).length = 1 := rfl
  have hl2 : ([Val.cells ⟨wk, wn, ws⟩] : List (List AV)).length = 1 := rfl
  replace c38 : ∀ h, ACalls Try.prog 38 [.ag [i64 vk, i64 vn, str vs], .ag [i64 wk, i64 wn, str ws]] h (fun x h' => x = i64 o ∧ h' = h) := c38
  have hmin : minInt (List.map (fun x => x.2) [(IntKind.i64, (1 : Int))]) 1 = 1 := by decide
  repeat' (first | ((show RRunG _ _ _ (.code (.loop _) :: _) _ _ _; refine RRun.loopIn ?_)) | ((show RRunG _ _ _ (.inLoop r30l0 :: _) _ _ _; refine RRun.inLoop ?_)) | refine S.nilK ?_ | (refine S.op rfl ?_; first | refine S.minIs rfl hmin ?_ | refine R.indexAddr rfl rfl (by omega) h1 ?_ | refine R.indexAddr rfl rfl (by omega) h2 ?_ | refine callS rfl rfl (c38 _) ?_ | refine callS rfl rfl (c39 _) ?_ | refine R.mv rfl ?_ | refine R.loadR rfl rfl ?_ | refine S.addI rfl rfl (by omega) ?_ | refine R.len rfl ?_ | ((first | refine S.lss rfl rfl ?_ ?_ | refine S.eqInt rfl rfl ?_ ?_) <;> intro hlt <;> try (exfalso; omega))) | refine S.seq ?_ | refine S.region ?_ | refine S.condT rfl ?_ | refine S.condF rfl ?_ | refine RRun.skip ?_ | refine RRun.block ?_ | refine RRun.inBlock ?_ | refine RRun.exit rfl ?_)
  all_goals
    apply S.ret rr30
    case hx => repeat (first | exact ResAt.nil | apply ResAt.tmp rfl)
    refine ⟨_, h, .refl _, (by repeat (first | exact AHeap.le.refl _)), ?_, rfl⟩
    first | rfl | exact congrArg i64 (show cmpI 1 1 = o by rw [‹o = 0›]; decide)
end Go.Proofs.Ythadifboeggnpaa

namespace Go.Proofs.Ythadifboeggnpaa
open Go.Av
abbrev bysA (l : List (Int × Bool)) : AV := .sl 2 (l.map fun p => [i64 p.1, bl p.2]) .ro
theorem cmpR_drop {l : List (Int × Bool)} {i : Nat} (hi : i < l.length) (x y : Row) : cmpR (l.drop i) x y = if (if l[i].2 = true then - ordV (atF x l[i].1) (atF y l[i].1) else ordV (atF x l[i].1) (atF y l[i].1)) ≠ 0 then (if l[i].2 = true then - ordV (atF x l[i].1) (atF y l[i].1) else ordV (atF x l[i].1) (atF y l[i].1)) else cmpR (l.drop (i + 1)) x y := by
  rw [List.drop_eq_getElem_cons hi, cmpR]
def r29l0 : RCode :=
  (.seq (.region [
    ⟨(some 12), none, .act, .bin .lss (.tmp 11) (.tmp 10)⟩])
  (.seq (.cond (.tmp 12)
   .skip
   (.exit 0))
  (.seq (.block 1
   (.seq (.region [
     ⟨(some 13), none, .act, .indexAddr 2 (.tmp 9) (.tmp 11)⟩,
     ⟨(some 14), none, .act, .load true 2 (.tmp 13)⟩,
     ⟨(some 7), none, .act, .alloc [(.int .i64 0), (.bool false)]⟩,
     ⟨none, none, .act, .store 2 (.tmp 7) (.tmp 14)⟩])
   (.seq (.region [
     ⟨(some 15), none, .pure, .mv (.tmp 0)⟩,
     ⟨(some 16), none, .pure, .fieldAddr 0 (.tmp 7)⟩,
     ⟨(some 17), none, .read, .load false 1 (.tmp 16)⟩,
     ⟨(some 18), none, .read, .call 31 [(.tmp 15), (.tmp 17)]⟩,
     ⟨(some 19), none, .pure, .buildSl 3 [(.int .i64 0), (.int .i64 0), (.string ⟨#[]⟩)] 1 [(0, (.tmp 18))]⟩,
     ⟨(some 20), none, .pure, .mv (.tmp 1)⟩,
     ⟨(some 21), none, .pure, .fieldAddr 0 (.tmp 7)⟩,
     ⟨(some 22), none, .read, .load false 1 (.tmp 21)⟩,
     ⟨(some 23), none, .act, .call 31 [(.tmp 20), (.tmp 22)]⟩,
     ⟨(some 24), none, .pure, .buildSl 3 [(.int .i64 0), (.int .i64 0), (.string ⟨#[]⟩)] 1 [(0, (.tmp 23))]⟩,
     ⟨(some 25), none, .act, .call 30 [(.tmp 19), (.tmp 24)]⟩,
     ⟨(some 8), none, .pure, .mv (.tmp 25)⟩])
   (.seq (.seq (.region [
     ⟨(some 26), none, .act, .mv (.tmp 8)⟩,
     ⟨(some 27), none, .act, .eq true .int (.tmp 26) (.const (.int .i64 0))⟩,
     ⟨(some 28), none, .act, .mv (.tmp 27)⟩,
     ⟨(some 29), (some (28, true)), .act, .fieldAddr 1 (.tmp 7)⟩,
     ⟨(some 30), (some (28, true)), .act, .load false 1 (.tmp 29)⟩,
     ⟨(some 31), none, .act, .pick (.tmp 28) (.tmp 30) (.const (.bool false))⟩])
   (.cond (.tmp 31)
    (.seq (.region [
      ⟨(some 32), none, .act, .mv (.tmp 8)⟩,
      ⟨(some 33), none, .act, .un .neg (.tmp 32)⟩,
      ⟨(some 5), none, .act, .mv (.tmp 33)⟩])
    .ret)
    .skip))
   (.seq (.region [
     ⟨(some 34), none, .act, .mv (.tmp 8)⟩,
     ⟨(some 35), none, .act, .eq true .int (.tmp 34) (.const (.int .i64 0))⟩])
   (.cond (.tmp 35)
    (.seq (.region [
      ⟨(some 36), none, .act, .mv (.tmp 8)⟩,
      ⟨(some 5), none, .act, .mv (.tmp 36)⟩])
    .ret)
    .skip))))))
  (.region [
    ⟨(some 37), none, .act, .bin .add (.tmp 11) (.const (.int .i64 1))⟩,
    ⟨(some 11), none, .act, .mv (.tmp 37)⟩]))))
def r29 : RCode :=
  (.seq (.region [
    ⟨(some 5), none, .act, .mv (.const (.int .i64 0))⟩])
  (.seq (.seq (.region [
    ⟨(some 9), none, .act, .load false 1 (.tmp 2)⟩,
    ⟨(some 10), none, .act, .len (.tmp 9)⟩,
    ⟨(some 11), none, .act, .mv (.const (.int .i64 0))⟩])
  (.block 0
   (.loop r29l0)))
  (.seq (.region [
    ⟨(some 5), none, .act, .mv (.const (.int .i64 0))⟩])
  .ret)))
theorem res29 : ∃ c, Try.f29.body = some c ∧ resCode Try.prog 38 c = some r29 := ⟨_, rfl, by kernel_rfl⟩
theorem rr29 : resRes Try.prog Try.f29.results.toList = some [.tmp 5] := by kernel_rfl
theorem cmp_loop (l : List (Int × Bool)) (hl : l.length ≤ 1000000) (hf : ∀ p ∈ l, Fits p.1) (x y : Row) (h : AHeap) (k : List RT) (Q : AV → AHeap → Prop)
    (hk : cmpR l x y = 0 → RRun Try.prog Try.f29 38 k (Env.get []) h Q) (hq : ∀ h', h.le h' → Q (i64 (cmpR l x y)) h') : ∀ (m i : Nat), i + m = l.length → cmpR l x y = cmpR (l.drop i) x y →
    RRun Try.prog Try.f29 38 (.inLoop r29l0 :: .inBlock 0 :: k) (Env.get [(0, rowA x), (1, rowA y), (9, bysA l), (10, i64 l.length), (11, i64 i)]) h Q := by
  intro m
  induction m with
  | zero =>
    intro i hi ht
    rw [List.drop_of_length_le (by omega)] at ht
    refine RRun.inLoop ?_
    repeat' (first | refine S.nilK ?_ | (refine S.op rfl ?_; first | ((first | refine S.lss rfl rfl ?_ ?_) <;> intro hlt <;> try (exfalso; omega))) | refine S.seq ?_ | refine S.region ?_ | refine S.condF rfl ?_ | refine RRun.exit rfl ?_)
    exact S.keep [] rfl (hk ht)
  | succ m ih =>
    intro i hi ht
    have hie : i < l.length := by omega
    have h1 : (l.map fun p => [i64 p.1, bl p.2])[((i : Nat) : Int).toNat]? = some [i64 l[i].1, bl l[i].2] := by simp [hie]
    have hfi := hf _ (List.getElem_mem hie)
    rw [cmpR_drop hie] at ht
    generalize l[i] = p at h1 hfi ht
    obtain ⟨n, b⟩ := p
    simp only at h1 hfi ht
    have c31x := fun h => at_spec x n hfi h
    have c31y := fun h => at_spec y n hfi h
    have c30 := fun h => cmp1_spec (atF x n) (atF y n) h
    have hsm := ordV_wo.sm (atF x n) (atF y n)
    generalize ordV (atF x n) (atF y n) = o at c30 ht hsm
    generalize atF x n = vx at c31x c30
    generalize atF y n = vy at c31y c30
    refine RRun.inLoop ?_
    rcases hsm with rfl | rfl | rfl
    · cases b with
      | false =>
        rw [ht] at hq
        repeat' (first | refine S.nilK ?_ | (refine S.op rfl ?_; first | refine R.indexAddr rfl rfl (by omega) h1 ?_ | refine R.callQ (by decide) rfl (c31x _) ?_ | refine R.callQ (by decide) rfl (c31y _) ?_ | refine callS rfl rfl (c30 _) ?_ | refine R.mv rfl ?_ | refine R.fieldAddr rfl ?_ | refine R.loadR rfl rfl ?_ | refine R.load (by decide) rfl (by (repeat' (first | exact AHeap.set_same _ _ _)); first | done | fail) rfl ?_ | refine R.pickT rfl rfl ?_ | refine R.alloc rfl (fun b hb => ?_) | refine R.buildSl rfl rfl rfl (by decide) ?_ | ((first | refine S.lss rfl rfl ?_ ?_ | refine S.eqInt rfl rfl ?_ ?_) <;> intro hlt <;> try (exfalso; omega))) | (refine S.op0 rfl ?_; first | refine S.storeS rfl rfl rfl (by rfl) rfl (by first | decide | exact Nat.le_refl _ | exact Nat.le_of_ble_eq_true rfl) ?_) | refine S.seq ?_ | refine S.region ?_ | refine S.condT rfl ?_ | refine S.condF rfl ?_ | refine RRun.skip ?_ | refine RRun.block ?_)
        apply S.ret rr29
        case hx => repeat (first | exact ResAt.nil | apply ResAt.tmp rfl)
        exact hq _ (by repeat (first | exact AHeap.le.refl _ | refine AHeap.le.set ?_ _ (by (repeat' (first | assumption)); first | done | fail)))
      | true =>
        rw [ht] at hq
        repeat' (first | refine S.nilK ?_ | (refine S.op rfl ?_; first | refine R.indexAddr rfl rfl (by omega) h1 ?_ | refine R.callQ (by decide) rfl (c31x _) ?_ | refine R.callQ (by decide) rfl (c31y _) ?_ | refine callS rfl rfl (c30 _) ?_ | refine R.neg rfl ?_ | refine R.mv rfl ?_ | refine R.fieldAddr rfl ?_ | refine R.loadR rfl rfl ?_ | refine R.load (by decide) rfl (by (repeat' (first | exact AHeap.set_same _ _ _)); first | done | fail) rfl ?_ | refine R.pickT rfl rfl ?_ | refine R.alloc rfl (fun b hb => ?_) | refine R.buildSl rfl rfl rfl (by decide) ?_ | ((first | refine S.lss rfl rfl ?_ ?_ | refine S.eqInt rfl rfl ?_ ?_) <;> intro hlt <;> try (exfalso; omega))) | (refine S.op0 rfl ?_; first | refine S.storeS rfl rfl rfl (by rfl) rfl (by first | decide | exact Nat.le_refl _ | exact Nat.le_of_ble_eq_true rfl) ?_) | refine S.seq ?_ | refine S.region ?_ | refine S.condT rfl ?_ | refine RRun.skip ?_ | refine RRun.block ?_)
        apply S.ret rr29
        case hx => repeat (first | exact ResAt.nil | apply ResAt.tmp rfl)
        exact hq _ (by repeat (first | exact AHeap.le.refl _ | refine AHeap.le.set ?_ _ (by (repeat' (first | assumption)); first | done | fail)))
    · have ht' : cmpR l x y = cmpR (l.drop (i + 1)) x y := by rw [ht]; cases b <;> simp
      repeat' (first | refine S.nilK ?_ | (refine S.op rfl ?_; first | refine R.indexAddr rfl rfl (by omega) h1 ?_ | refine R.callQ (by decide) rfl (c31x _) ?_ | refine R.callQ (by decide) rfl (c31y _) ?_ | refine callS rfl rfl (c30 _) ?_ | refine S.eqIntSame (a := 0) rfl rfl ?_ | refine R.mv rfl ?_ | refine R.fieldAddr rfl ?_ | refine R.loadR rfl rfl ?_ | refine R.load (by decide) rfl (by (repeat' (first | exact AHeap.set_same _ _ _)); first | done | fail) rfl ?_ | refine S.addI rfl rfl (by omega) ?_ | refine R.pickF rfl rfl ?_ | refine R.alloc rfl (fun b hb => ?_) | refine R.buildSl rfl rfl rfl (by decide) ?_ | ((first | refine S.lss rfl rfl ?_ ?_) <;> intro hlt <;> try (exfalso; omega))) | (refine S.op0 rfl ?_; first | refine S.storeS rfl rfl rfl (by rfl) rfl (by first | decide | exact Nat.le_refl _ | exact Nat.le_of_ble_eq_true rfl) ?_) | refine S.skip rfl ?_ | refine S.seq ?_ | refine S.region ?_ | refine S.condT rfl ?_ | refine S.condF rfl ?_ | refine RRun.skip ?_ | refine RRun.block ?_ | refine RRun.inBlock ?_)
      rw [show ((i : Int) + 1) = ((i + 1 : Nat) : Int) by omega]
      exact S.keep [0, 1, 9, 10, 11] rfl (S.drop (by repeat (first | exact AHeap.le.refl _ | refine AHeap.le.set ?_ _ (by (repeat' (first | assumption)); first | done | fail))) (ih (i + 1) (by omega) ht'))
    · cases b with
      | false =>
        rw [ht] at hq
        repeat' (first | refine S.nilK ?_ | (refine S.op rfl ?_; first | refine R.indexAddr rfl rfl (by omega) h1 ?_ | refine R.callQ (by decide) rfl (c31x _) ?_ | refine R.callQ (by decide) rfl (c31y _) ?_ | refine callS rfl rfl (c30 _) ?_ | refine R.mv rfl ?_ | refine R.fieldAddr rfl ?_ | refine R.loadR rfl rfl ?_ | refine R.load (by decide) rfl (by (repeat' (first | exact AHeap.set_same _ _ _)); first | done | fail) rfl ?_ | refine R.pickT rfl rfl ?_ | refine R.alloc rfl (fun b hb => ?_) | refine R.buildSl rfl rfl rfl (by decide) ?_ | ((first | refine S.lss rfl rfl ?_ ?_ | refine S.eqInt rfl rfl ?_ ?_) <;> intro hlt <;> try (exfalso; omega))) | (refine S.op0 rfl ?_; first | refine S.storeS rfl rfl rfl (by rfl) rfl (by first | decide | exact Nat.le_refl _ | exact Nat.le_of_ble_eq_true rfl) ?_) | refine S.seq ?_ | refine S.region ?_ | refine S.condT rfl ?_ | refine S.condF rfl ?_ | refine RRun.skip ?_ | refine RRun.block ?_)
        apply S.ret rr29
        case hx => repeat (first | exact ResAt.nil | apply ResAt.tmp rfl)
        exact hq _ (by repeat (first | exact AHeap.le.refl _ | refine AHeap.le.set ?_ _ (by (repeat' (first | assumption)); first | done | fail)))
      | true =>
        rw [ht] at hq
        repeat' (first | refine S.nilK ?_ | (refine S.op rfl ?_; first | refine R.indexAddr rfl rfl (by omega) h1 ?_ | refine R.callQ (by decide) rfl (c31x _) ?_ | refine R.callQ (by decide) rfl (c31y _) ?_ | refine callS rfl rfl (c30 _) ?_ | refine R.neg rfl ?_ | refine R.mv rfl ?_ | refine R.fieldAddr rfl ?_ | refine R.loadR rfl rfl ?_ | refine R.load (by decide) rfl (by (repeat' (first | exact AHeap.set_same _ _ _)); first | done | fail) rfl ?_ | refine R.pickT rfl rfl ?_ | refine R.alloc rfl (fun b hb => ?_) | refine R.buildSl rfl rfl rfl (by decide) ?_ | ((first | refine S.lss rfl rfl ?_ ?_ | refine S.eqInt rfl rfl ?_ ?_) <;> intro hlt <;> try (exfalso; omega))) | (refine S.op0 rfl ?_; first | refine S.storeS rfl rfl rfl (by rfl) rfl (by first | decide | exact Nat.le_refl _ | exact Nat.le_of_ble_eq_true rfl) ?_) | refine S.seq ?_ | refine S.region ?_ | refine S.condT rfl ?_ | refine RRun.skip ?_ | refine RRun.block ?_)
        apply S.ret rr29
        case hx => repeat (first | exact ResAt.nil | apply ResAt.tmp rfl)
        exact hq _ (by repeat (first | exact AHeap.le.refl _ | refine AHeap.le.set ?_ _ (by (repeat' (first | assumption)); first | done | fail)))
theorem cmpR_spec (l : List (Int × Bool)) (hl : l.length ≤ 1000000) (hf : ∀ p ∈ l, Fits p.1) (x y : Row) (pb : Nat) (h : AHeap) (hp : h pb = some (.box [bysA l])) :
    ACalls Try.prog 29 [rowA x, rowA y, ptr pb] h (fun z h' => z = i64 (cmpR l x y) ∧ h' = h) := by
  obtain ⟨c', hc1, hc2⟩ := res29
  refine ACalls.weak (ACalls.enter Try.func29 hc1 Try.ntmps29 hc2 (Nat.le_of_ble_eq_true rfl) rfl ?_)
  have hlen : (l.map fun p => [i64 p.1, bl p.2]).length = l.length := by simp
  repeat' (first | refine S.nilK ?_ | (refine S.op rfl ?_; first | refine R.mv rfl ?_ | refine R.load (by decide) rfl (by (repeat' (first | assumption)); first | done | fail) rfl ?_ | refine R.len rfl ?_) | refine S.seq ?_ | refine S.region ?_ | refine RRun.block ?_)
  rw [hlen]
  refine RRun.loopIn (S.keep [0, 1, 9, 10, 11] rfl (cmp_loop l hl hf x y h _ _ (fun he => ?_) (fun h' hh => ⟨_, h, .refl _, hh, rfl, rfl⟩) l.length 0 (by omega) rfl))
  repeat' (first | refine S.nilK ?_ | (refine S.op rfl ?_; first | refine R.mv rfl ?_) | refine S.seq ?_ | refine S.region ?_)
  apply S.ret rr29
  case hx => repeat (first | exact ResAt.nil | apply ResAt.tmp rfl)
  exact ⟨_, h, .refl _, (by repeat (first | exact AHeap.le.refl _)), by rw [he]; rfl, rfl⟩
def HR (h : AHeap) (q : Nat) (d : List Row) (sp : List AV) : AHeap := h.set q (.box (d.map (fun r => rowA r) ++ sp))
theorem HR_at (h : AHeap) (q : Nat) (d : List Row) (sp : List AV) : HR h q d sp q = some (.box (d.map (fun r => rowA r) ++ sp)) := AHeap.set_same _ _ _
theorem HR_set (h : AHeap) (q : Nat) (d d' : List Row) (sp : List AV) : (HR h q d sp).set q (.box (d'.map (fun r => rowA r) ++ sp)) = HR h q d' sp := AHeap.set_set _ _ _ _
end Go.Proofs.Ythadifboeggnpaa
namespace Go.Av
section
variable {P : Program} {c : Cls} {E : AEnv} {h : AHeap} {K : AV → AHeap → Prop} {q : Nat} {sp : List AV}
theorem S.addNN {x y : Operand} {m n : Nat} (hx : aev E x = some (i64 ((m : Nat) : Int))) (hy : aev E y = some (i64 ((n : Nat) : Int))) (hb : m + n ≤ 9223372036854775807) (hk : K (i64 ((m + n : Nat) : Int)) h) : ROpS P c (.bin .add x y) E h K :=
  S.addI hx hy (by omega) (by rw [show ((m : Int) + (n : Int)) = ((m + n : Nat) : Int) by omega]; exact hk)
theorem S.subNN {x y : Operand} {m n : Nat} (hx : aev E x = some (i64 ((m : Nat) : Int))) (hy : aev E y = some (i64 ((n : Nat) : Int))) (hb : n ≤ m) (hb2 : m ≤ 9223372036854775807) (hk : K (i64 ((m - n : Nat) : Int)) h) : ROpS P c (.bin .sub x y) E h K :=
  S.subI hx hy (by omega) (by rw [show ((m : Int) - (n : Int)) = ((m - n : Nat) : Int) by omega]; exact hk)
theorem S.ixN {x i : Operand} {b len cap n : Nat} (hx : aev E x = some (slAt b 0 len cap)) (hi : aev E i = some (i64 ((n : Nat) : Int))) (hn : n < len) (hk : K (ptrAt b n) h) : ROpS P c (.indexAddr 1 x i) E h K :=
  R.indexAddrV hx hi (by omega) (by omega) (by
    have e : 0 + ((n : Nat) : Int).toNat * 1 = n := by omega
    rw [e]; exact hk)
end
end Go.Av
namespace Go.Proofs.Ythadifboeggnpaa
open Go.Av
section
variable {P : Program} {c : Cls} {E : AEnv} {h : AHeap} {K : AV → AHeap → Prop} {q : Nat} {sp : List AV}
theorem ldR {x : Operand} {d : List Row} {n : Nat} {r : Row} (hc : c ≠ .pure) (hx : aev E x = some (ptrAt q n)) (hn : d[n]? = some r) (hk : K (rowA r) (HR h q d sp)) : ROpS P c (.load false 1 x) E (HR h q d sp) K := by
  refine R.load hc hx (HR_at _ _ _ _) ?_ hk
  have hlt := (List.getElem?_eq_some_iff.1 hn).1
  have h1 : (d.map (fun r => rowA r) ++ sp)[n]? = some (rowA r) := by
    rw [List.getElem?_append_left (by simpa using hlt), List.getElem?_map, hn]; rfl
  obtain ⟨h2, h3⟩ := List.getElem?_eq_some_iff.1 h1
  rw [List.drop_eq_getElem_cons h2, h3]
  rfl
theorem stR {x y : Operand} {d : List Row} {n : Nat} {r : Row} (hc : c = .act) (hx : aev E x = some (ptrAt q n)) (hy : aev E y = some (rowA r)) (hn : n < d.length) (hk : K (.v undef) (HR h q (d.set n r) sp)) : ROpS P c (.store 1 x y) E (HR h q d sp) K := by
  refine R.store hc hx (HR_at _ _ _ _) hy rfl rfl (by simp; omega) ?_
  have : over (d.map (fun r => rowA r) ++ sp) n [rowA r] = (d.set n r).map (fun r => rowA r) ++ sp := by
    unfold over
    have hl : n < (d.map (fun r => rowA r)).length := by simpa using hn
    rw [List.take_append_of_le_length (by omega), List.drop_append_of_le_length (by simp; omega), ← List.append_assoc, List.map_set]
    congr 1
    rw [List.set_eq_take_append_cons_drop, if_pos hl]
    simp
  rw [this, HR_set]; exact hk
end
end Go.Proofs.Ythadifboeggnpaa

namespace Go.Proofs.Ythadifboeggnpaa
open Go.Av
theorem hp29 : plainCallee Try.prog 29 = true := by kernel_rfl
abbrev cmpA (pb : Nat) : AV := .fn (.func 29) [] [ptr pb]
def ltR (l : List (Int × Bool)) (x y : Row) : Bool := decide (cmpR l x y < 0)
theorem ltR_sw (l : List (Int × Bool)) : St.SW (ltR l) := (cmpR_wo l).sw
theorem set_mid {α : Type} (L R : List α) (x y : α) : (L ++ x :: R).set L.length y = L ++ y :: R := by
  rw [List.set_append_right _ _ (Nat.le_refl _), Nat.sub_self]; rfl
theorem get_mid {α : Type} (L R : List α) (x : α) : (L ++ x :: R)[L.length]? = some x := by
  rw [List.getElem?_append_right (Nat.le_refl _), Nat.sub_self]; rfl
def r70l0 : RCode :=
  (.seq (.seq (.region [
    ⟨(some 11), none, .act, .mv (.tmp 10)⟩,
    ⟨(some 12), none, .act, .mv (.tmp 3)⟩,
    ⟨(some 13), none, .act, .bin .lss (.tmp 11) (.tmp 12)⟩])
  (.cond (.tmp 13)
   .skip
   (.exit 0)))
  (.seq (.block 1
   (.region [
     ⟨(some 16), none, .pure, .mv (.tmp 0)⟩,
     ⟨(some 17), none, .pure, .mv (.tmp 1)⟩,
     ⟨(some 18), none, .pure, .mv (.tmp 10)⟩,
     ⟨(some 19), none, .pure, .bin .add (.tmp 17) (.tmp 18)⟩,
     ⟨(some 20), none, .pure, .mv (.tmp 0)⟩,
     ⟨(some 21), none, .pure, .mv (.tmp 2)⟩,
     ⟨(some 22), none, .pure, .mv (.tmp 10)⟩,
     ⟨(some 23), none, .pure, .bin .add (.tmp 21) (.tmp 22)⟩,
     ⟨(some 24), none, .pure, .mv (.tmp 0)⟩,
     ⟨(some 25), none, .pure, .mv (.tmp 2)⟩,
     ⟨(some 26), none, .pure, .mv (.tmp 10)⟩,
     ⟨(some 27), none, .pure, .bin .add (.tmp 25) (.tmp 26)⟩,
     ⟨(some 28), none, .pure, .indexAddr 1 (.tmp 24) (.tmp 27)⟩,
     ⟨(some 29), none, .read, .load false 1 (.tmp 28)⟩,
     ⟨(some 30), none, .pure, .mv (.tmp 0)⟩,
     ⟨(some 31), none, .pure, .mv (.tmp 1)⟩,
     ⟨(some 32), none, .pure, .mv (.tmp 10)⟩,
     ⟨(some 33), none, .pure, .bin .add (.tmp 31) (.tmp 32)⟩,
     ⟨(some 34), none, .pure, .indexAddr 1 (.tmp 30) (.tmp 33)⟩,
     ⟨(some 35), none, .read, .load false 1 (.tmp 34)⟩,
     ⟨(some 36), none, .pure, .indexAddr 1 (.tmp 16) (.tmp 19)⟩,
     ⟨none, none, .act, .store 1 (.tmp 36) (.tmp 29)⟩,
     ⟨(some 37), none, .pure, .indexAddr 1 (.tmp 20) (.tmp 23)⟩,
     ⟨none, none, .act, .store 1 (.tmp 37) (.tmp 35)⟩]))
  (.region [
    ⟨(some 14), none, .act, .mv (.tmp 10)⟩,
    ⟨(some 15), none, .act, .bin .add (.tmp 14) (.const (.int .i64 1))⟩,
    ⟨(some 10), none, .act, .mv (.tmp 15)⟩])))
def r70 : RCode :=
  (.seq (.region [
    ⟨(some 10), none, .act, .mv (.const (.int .i64 0))⟩])
  (.block 0
   (.loop r70l0)))
theorem res70 : ∃ c, Try.f70.body = some c ∧ resCode Try.prog 38 c = some r70 := ⟨_, rfl, by kernel_rfl⟩
theorem rr70 : resRes Try.prog Try.f70.results.toList = some [] := by kernel_rfl
theorem swap_step (q n cap a b m k : Nat) (d : List Row) (x y : Row) (sp : List AV) (h : AHeap) (hn : n ≤ 1000000) (hd : d.length = n) (hk0 : k < m) (ha : a + k < n) (hb : b + k < n) (hX : d[a + k]? = some x) (hY : d[b + k]? = some y) (ks : List RT) (Q : AV → AHeap → Prop)
    (H : RRun Try.prog Try.f70 38 (.inLoop r70l0 :: ks) (Env.get [(0, slAt q 0 n cap), (1, i64 a), (2, i64 b), (3, i64 m), (10, i64 (k + 1 : Nat))]) (HR h q ((d.set (a + k) y).set (b + k) x) sp) Q) :
    RRun Try.prog Try.f70 38 (.inLoop r70l0 :: ks) (Env.get [(0, slAt q 0 n cap), (1, i64 a), (2, i64 b), (3, i64 m), (10, i64 k)]) (HR h q d sp) Q := by
  refine RRun.inLoop ?_
  repeat' (first | (refine S.op0 rfl (stR rfl rfl rfl (by (try simp only [List.length_set]); omega) ?_)) | refine S.nilK ?_ | (refine S.op rfl ?_; first | refine S.addNN (n := 1) rfl rfl (by omega) ?_ | refine S.addNN rfl rfl (by omega) ?_ | refine S.ixN rfl rfl (by omega) ?_ | refine ldR (by decide) rfl hX ?_ | refine ldR (by decide) rfl hY ?_ | refine R.mv rfl ?_ | ((first | refine S.lss rfl rfl ?_ ?_) <;> intro hlt <;> try (exfalso; omega))) | refine S.seq ?_ | refine S.region ?_ | refine S.condT rfl ?_ | refine RRun.skip ?_ | refine RRun.block ?_ | refine RRun.inBlock ?_)
  exact S.keep [0, 1, 2, 3, 10] rfl H
theorem swap_loop (q n cap a b m : Nat) (sp : List AV) (h : AHeap) (hn : n ≤ 1000000) (Z : List Row) (ks : List RT) (Q : AV → AHeap → Prop) : ∀ (X Y A B : List Row) (k : Nat), X.length = Y.length → k + X.length = m → A.length = a + k → A.length + X.length + B.length = b + k → A.length + X.length + B.length + Y.length + Z.length = n →
    RRun Try.prog Try.f70 38 ks (Env.get []) (HR h q (A ++ Y ++ B ++ X ++ Z) sp) Q →
    RRun Try.prog Try.f70 38 (.inLoop r70l0 :: .inBlock 0 :: ks) (Env.get [(0, slAt q 0 n cap), (1, i64 a), (2, i64 b), (3, i64 m), (10, i64 k)]) (HR h q (A ++ X ++ B ++ Y ++ Z) sp) Q
  | [], [], A, B, k, _, hm, _, _, _, hk => by
    simp only [List.length_nil] at hm
    refine RRun.inLoop ?_
    repeat' (first | refine S.nilK ?_ | (refine S.op rfl ?_; first | refine R.mv rfl ?_ | ((first | refine S.lss rfl rfl ?_ ?_) <;> intro hlt <;> try (exfalso; omega))) | refine S.seq ?_ | refine S.region ?_ | refine S.condF rfl ?_ | refine RRun.exit rfl ?_)
    exact S.keep [] rfl hk
  | x :: X, y :: Y, A, B, k, hl, hm, hA, hB, hn', hk => by
    simp only [List.length_cons] at hl hm hB hn'
    have e1 : A ++ x :: X ++ B ++ y :: Y ++ Z = A ++ x :: (X ++ B ++ y :: Y ++ Z) := by simp
    have e2 : A ++ x :: X ++ B ++ y :: Y ++ Z = (A ++ x :: X ++ B) ++ y :: (Y ++ Z) := by simp
    have hX : (A ++ x :: X ++ B ++ y :: Y ++ Z)[a + k]? = some x := by rw [← hA, e1]; exact get_mid _ _ _
    have hlen2 : (A ++ x :: X ++ B).length = b + k := by simp; omega
    have hY : (A ++ x :: X ++ B ++ y :: Y ++ Z)[b + k]? = some y := by rw [← hlen2, e2]; exact get_mid _ _ _
    have e3 : ((A ++ x :: X ++ B ++ y :: Y ++ Z).set (a + k) y).set (b + k) x = (A ++ [y]) ++ X ++ (B ++ [x]) ++ Y ++ Z := by
      rw [← hA, e1, set_mid]
      have e4 : A ++ y :: (X ++ B ++ y :: Y ++ Z) = (A ++ y :: X ++ B) ++ y :: (Y ++ Z) := by simp
      have hlen3 : (A ++ y :: X ++ B).length = b + k := by simp; omega
      rw [← hlen3, e4, set_mid]
      simp
    refine swap_step q n cap a b m k _ x y sp h hn (by simp; omega) (by omega) (by omega) (by omega) hX hY _ Q ?_
    rw [e3]
    refine swap_loop q n cap a b m sp h hn Z ks Q X Y (A ++ [y]) (B ++ [x]) (k + 1) (by omega) (by omega) (by simp; omega) (by simp; omega) (by simp; omega) ?_
    have e5 : A ++ [y] ++ Y ++ (B ++ [x]) ++ X ++ Z = A ++ y :: Y ++ B ++ x :: X ++ Z := by simp
    rw [e5]; exact hk
theorem swapRange_spec (q n cap : Nat) (sp : List AV) (h : AHeap) (hn : n ≤ 1000000) (P X M Y Z : List Row) (hXY : X.length = Y.length) (a b m : Nat) (ha : a = P.length) (hb : b = P.length + X.length + M.length) (hm : m = X.length) (hlen : P.length + X.length + M.length + Y.length + Z.length = n) (f : AV) :
    ACalls Try.prog 70 [slAt q 0 n cap, i64 a, i64 b, i64 m, f] (HR h q (P ++ X ++ M ++ Y ++ Z) sp) (fun _ h' => h' = HR h q (P ++ Y ++ M ++ X ++ Z) sp) := by
  subst ha; subst hb; subst hm
  obtain ⟨c', hc1, hc2⟩ := res70
  refine ACalls.enter Try.func70 hc1 Try.ntmps70 hc2 (Nat.le_of_ble_eq_true rfl) rfl ?_
  repeat' (first | refine S.nilK ?_ | (refine S.op rfl ?_; first | refine R.mv rfl ?_) | refine S.seq ?_ | refine S.region ?_ | refine RRun.block ?_)
  refine RRun.loopIn (S.keep [0, 1, 2, 3, 10] rfl (swap_loop q n cap P.length (P.length + X.length + M.length) X.length sp h hn Z _ _ X Y P M 0 hXY (by omega) (by omega) (by omega) hlen ?_))
  repeat' (fail)
  apply S.done rr70
  case hx => repeat (first | exact ResAt.nil)
  rfl
end Go.Proofs.Ythadifboeggnpaa

namespace Go.Proofs.Ythadifboeggnpaa
open Go.Av
def r61l0 : RCode :=
  (.seq (.seq (.region [
    ⟨(some 18), none, .act, .mv (.tmp 10)⟩,
    ⟨(some 19), none, .act, .mv (.tmp 11)⟩,
    ⟨(some 20), none, .act, .eq true .int (.tmp 18) (.tmp 19)⟩])
  (.cond (.tmp 20)
   .skip
   (.exit 0)))
  (.block 1
   (.seq (.region [
     ⟨(some 21), none, .act, .mv (.tmp 10)⟩,
     ⟨(some 22), none, .act, .mv (.tmp 11)⟩,
     ⟨(some 23), none, .act, .bin .gtr (.tmp 21) (.tmp 22)⟩])
   (.cond (.tmp 23)
    (.seq (.region [
      ⟨(some 24), none, .act, .mv (.tmp 0)⟩,
      ⟨(some 25), none, .act, .mv (.tmp 2)⟩,
      ⟨(some 26), none, .act, .mv (.tmp 10)⟩,
      ⟨(some 27), none, .act, .bin .sub (.tmp 25) (.tmp 26)⟩,
      ⟨(some 28), none, .act, .mv (.tmp 2)⟩,
      ⟨(some 29), none, .act, .mv (.tmp 11)⟩,
      ⟨(some 30), none, .act, .mv (.tmp 4)⟩,
      ⟨(some 31), none, .act, .call 70 [(.tmp 24), (.tmp 27), (.tmp 28), (.tmp 29), (.tmp 30)]⟩])
    (.region [
      ⟨(some 32), none, .act, .mv (.tmp 10)⟩,
      ⟨(some 33), none, .act, .mv (.tmp 11)⟩,
      ⟨(some 34), none, .act, .bin .sub (.tmp 32) (.tmp 33)⟩,
      ⟨(some 10), none, .act, .mv (.tmp 34)⟩]))
    (.seq (.region [
      ⟨(some 35), none, .act, .mv (.tmp 0)⟩,
      ⟨(some 36), none, .act, .mv (.tmp 2)⟩,
      ⟨(some 37), none, .act, .mv (.tmp 10)⟩,
      ⟨(some 38), none, .act, .bin .sub (.tmp 36) (.tmp 37)⟩,
      ⟨(some 39), none, .act, .mv (.tmp 2)⟩,
      ⟨(some 40), none, .act, .mv (.tmp 11)⟩,
      ⟨(some 41), none, .act, .bin .add (.tmp 39) (.tmp 40)⟩,
      ⟨(some 42), none, .act, .mv (.tmp 10)⟩,
      ⟨(some 43), none, .act, .bin .sub (.tmp 41) (.tmp 42)⟩,
      ⟨(some 44), none, .act, .mv (.tmp 10)⟩,
      ⟨(some 45), none, .act, .mv (.tmp 4)⟩,
      ⟨(some 46), none, .act, .call 70 [(.tmp 35), (.tmp 38), (.tmp 43), (.tmp 44), (.tmp 45)]⟩])
    (.region [
      ⟨(some 47), none, .act, .mv (.tmp 11)⟩,
      ⟨(some 48), none, .act, .mv (.tmp 10)⟩,
      ⟨(some 49), none, .act, .bin .sub (.tmp 47) (.tmp 48)⟩,
      ⟨(some 11), none, .act, .mv (.tmp 49)⟩]))))))
def r61 : RCode :=
  (.seq (.region [
    ⟨(some 12), none, .act, .mv (.tmp 2)⟩,
    ⟨(some 13), none, .act, .mv (.tmp 1)⟩,
    ⟨(some 14), none, .act, .bin .sub (.tmp 12) (.tmp 13)⟩,
    ⟨(some 10), none, .act, .mv (.tmp 14)⟩])
  (.seq (.region [
    ⟨(some 15), none, .act, .mv (.tmp 3)⟩,
    ⟨(some 16), none, .act, .mv (.tmp 2)⟩,
    ⟨(some 17), none, .act, .bin .sub (.tmp 15) (.tmp 16)⟩,
    ⟨(some 11), none, .act, .mv (.tmp 17)⟩])
  (.seq (.block 0
   (.loop r61l0))
  (.region [
    ⟨(some 50), none, .act, .mv (.tmp 0)⟩,
    ⟨(some 51), none, .act, .mv (.tmp 2)⟩,
    ⟨(some 52), none, .act, .mv (.tmp 10)⟩,
    ⟨(some 53), none, .act, .bin .sub (.tmp 51) (.tmp 52)⟩,
    ⟨(some 54), none, .act, .mv (.tmp 2)⟩,
    ⟨(some 55), none, .act, .mv (.tmp 10)⟩,
    ⟨(some 56), none, .act, .mv (.tmp 4)⟩,
    ⟨(some 57), none, .act, .call 70 [(.tmp 50), (.tmp 53), (.tmp 54), (.tmp 55), (.tmp 56)]⟩]))))
theorem res61 : ∃ c, Try.f61.body = some c ∧ resCode Try.prog 58 c = some r61 := ⟨_, rfl, by kernel_rfl⟩
theorem rr61 : resRes Try.prog Try.f61.results.toList = some [] := by kernel_rfl
theorem rot_loop (q n cap m : Nat) (f : AV) (sp : List AV) (h : AHeap) (hn : n ≤ 1000000) (ks : List RT) (Q : AV → AHeap → Prop) (G : List Row)
    (hk : ∀ A X Y B : List Row, X.length = Y.length → A.length + X.length = m → A.length + X.length + Y.length + B.length = n → A ++ Y ++ X ++ B = G → RRun Try.prog Try.f61 58 ks (Env.get [(0, slAt q 0 n cap), (2, i64 m), (4, f), (10, i64 X.length)]) (HR h q (A ++ X ++ Y ++ B) sp) Q) : ∀ (fu : Nat) (A X Y B : List Row), X.length + Y.length ≤ fu → X ≠ [] → Y ≠ [] → A.length + X.length = m → A.length + X.length + Y.length + B.length = n → A ++ Y ++ X ++ B = G →
    RRun Try.prog Try.f61 58 (.inLoop r61l0 :: .inBlock 0 :: ks) (Env.get [(0, slAt q 0 n cap), (2, i64 m), (4, f), (10, i64 X.length), (11, i64 Y.length)]) (HR h q (A ++ X ++ Y ++ B) sp) Q := by
  intro fu
  induction fu with
  | zero =>
    intro A X Y B hfu hX hY _ _ _
    exact absurd (List.eq_nil_of_length_eq_zero (by omega)) hX
  | succ fu ih =>
    intro A X Y B hfu hX hY hm hlen hG
    have hx0 : 0 < X.length := List.length_pos_iff.2 hX
    have hy0 : 0 < Y.length := List.length_pos_iff.2 hY
    rcases Nat.lt_trichotomy X.length Y.length with hlt | heq | hgt
    · have hsplit : Y.take (Y.length - X.length) ++ Y.drop (Y.length - X.length) = Y := List.take_append_drop _ _
      have l1 : (Y.take (Y.length - X.length)).length = Y.length - X.length := by simp
      have l2 : (Y.drop (Y.length - X.length)).length = X.length := by simp; omega
      generalize hY1 : Y.take (Y.length - X.length) = Y1 at hsplit l1
      generalize hY2 : Y.drop (Y.length - X.length) = Y2 at hsplit l2
      have e1 : A ++ X ++ Y ++ B = A ++ X ++ Y1 ++ Y2 ++ B := by rw [← hsplit]; simp
      have e2 : A ++ Y2 ++ Y1 ++ X ++ B = A ++ Y2 ++ Y1 ++ (X ++ B) := by simp
      have c70 := swapRange_spec q n cap sp h hn A X Y1 Y2 B (by omega) (m - X.length) (m + Y.length - X.length) X.length (by omega) (by omega) rfl (by omega) f
      have hih := ih A Y2 Y1 (X ++ B) (by omega) (fun e => by rw [e] at l2; simp at l2; omega) (fun e => by rw [e] at l1; simp at l1; omega) (by omega) (by simp; omega) (by rw [← hG, ← hsplit]; simp)
      rw [e2] at c70
      rw [e1]
      rw [l1, l2] at hih
      generalize X.length = i at *
      generalize Y.length = j at *
      refine RRun.inLoop ?_
      repeat' (first | refine S.nilK ?_ | (refine S.op rfl ?_; first | refine S.addNN rfl rfl (by omega) ?_ | refine S.subNN rfl rfl (by omega) (by omega) ?_ | refine callU rfl rfl c70 (fun _ => ?_) | refine R.mv rfl ?_ | ((first | refine S.gtr rfl rfl ?_ ?_ | refine S.eqInt rfl rfl ?_ ?_) <;> intro hlt <;> try (exfalso; omega))) | refine S.seq ?_ | refine S.region ?_ | refine S.condT rfl ?_ | refine S.condF rfl ?_ | refine RRun.skip ?_ | refine RRun.block ?_ | refine RRun.inBlock ?_)
      exact S.keep [0, 2, 4, 10, 11] rfl hih
    · refine RRun.inLoop ?_
      rw [← heq]
      repeat' (first | refine S.nilK ?_ | (refine S.op rfl ?_; first | refine S.eqIntSame (a := (X.length : Int)) rfl rfl ?_ | refine R.mv rfl ?_) | refine S.seq ?_ | refine S.region ?_ | refine S.condF rfl ?_ | refine RRun.exit rfl ?_)
      exact S.keep [0, 2, 4, 10] rfl (hk A X Y B heq hm hlen hG)
    · have hsplit : X.take Y.length ++ X.drop Y.length = X := List.take_append_drop _ _
      have l1 : (X.take Y.length).length = Y.length := by simp; omega
      have l2 : (X.drop Y.length).length = X.length - Y.length := by simp
      generalize X.take Y.length = X1 at hsplit l1
      generalize X.drop Y.length = X2 at hsplit l2
      have e1 : A ++ X ++ Y ++ B = A ++ X1 ++ X2 ++ Y ++ B := by rw [← hsplit]; simp
      have c70 := swapRange_spec q n cap sp h hn A X1 X2 Y B (by omega) (m - X.length) m Y.length (by omega) (by omega) (by omega) (by omega) f
      have hih := ih (A ++ Y) X2 X1 B (by omega) (fun e => by rw [e] at l2; simp at l2; omega) (fun e => by rw [e] at l1; simp at l1; omega) (by simp; omega) (by simp; omega) (by rw [← hG, ← hsplit]; simp)
      rw [e1]
      rw [l1, l2] at hih
      generalize X.length = i at *
      generalize Y.length = j at *
      refine RRun.inLoop ?_
      repeat' (first | refine S.nilK ?_ | (refine S.op rfl ?_; first | refine S.subNN rfl rfl (by omega) (by omega) ?_ | refine callU rfl rfl c70 (fun _ => ?_) | refine R.mv rfl ?_ | ((first | refine S.gtr rfl rfl ?_ ?_ | refine S.eqInt rfl rfl ?_ ?_) <;> intro hlt <;> try (exfalso; omega))) | refine S.seq ?_ | refine S.region ?_ | refine S.condT rfl ?_ | refine RRun.skip ?_ | refine RRun.block ?_ | refine RRun.inBlock ?_)
      exact S.keep [0, 2, 4, 10, 11] rfl hih
theorem rotate_spec (q n cap : Nat) (sp : List AV) (h : AHeap) (hn : n ≤ 1000000) (P X Y Z : List Row) (hX : X ≠ []) (hY : Y ≠ []) (a m b : Nat) (ha : a = P.length) (hm : m = P.length + X.length) (hb : b = P.length + X.length + Y.length) (hlen : P.length + X.length + Y.length + Z.length = n) (f : AV) :
    ACalls Try.prog 61 [slAt q 0 n cap, i64 a, i64 m, i64 b, f] (HR h q (P ++ X ++ Y ++ Z) sp) (fun _ h' => h' = HR h q (P ++ Y ++ X ++ Z) sp) := by
  obtain ⟨c', hc1, hc2⟩ := res61
  refine ACalls.enter Try.func61 hc1 Try.ntmps61 hc2 (Nat.le_of_ble_eq_true rfl) rfl ?_
  have e1 : m - a = X.length := by omega
  have e2 : b - m = Y.length := by omega
  repeat' (first | refine S.nilK ?_ | (refine S.op rfl ?_; first | refine S.subNN rfl rfl (by omega) (by omega) ?_ | refine R.mv rfl ?_) | refine S.seq ?_ | refine S.region ?_ | refine RRun.block ?_)
  rw [e1, e2]
  refine RRun.loopIn (S.keep [0, 2, 4, 10, 11] rfl (rot_loop q n cap m f sp h hn _ _ (P ++ Y ++ X ++ Z) (fun A X Y B hXY hA hlen' hG => ?_) (X.length + Y.length) P X Y Z (Nat.le_refl _) hX hY (by omega) hlen rfl))
  have c70 := swapRange_spec q n cap sp h hn A X [] Y B hXY (m - X.length) m X.length (by omega) (by simp; omega) rfl (by simp; omega) f
  rw [List.append_nil] at c70
  simp only [List.append_nil] at c70
  rw [hG] at c70
  generalize X.length = i at *
  repeat' (first | refine S.nilK ?_ | (refine S.op rfl ?_; first | refine S.subNN rfl rfl (by omega) (by omega) ?_ | refine callU rfl rfl c70 (fun _ => ?_) | refine R.mv rfl ?_) | refine S.region ?_)
  apply S.done rr61
  case hx => repeat (first | exact ResAt.nil)
  rfl
end Go.Proofs.Ythadifboeggnpaa

namespace Go.Proofs.Ythadifboeggnpaa
open Go.Av
theorem HR_ne {h : AHeap} {q pb : Nat} (hne : pb ≠ q) (d : List Row) (sp : List AV) : HR h q d sp pb = h pb := AHeap.set_other _ _ hne
structure Box (l : List (Int × Bool)) (h : AHeap) (pb q : Nat) : Prop where
  hl : l.length ≤ 1000000
  hf : ∀ p ∈ l, Fits p.1
  hp : h pb = some (.box [bysA l])
  ne : pb ≠ q
theorem Box.cmp {l : List (Int × Bool)} {h : AHeap} {pb q : Nat} (B : Box l h pb q) (x y : Row) (d : List Row) (sp : List AV) :
    ACalls Try.prog 29 ([] ++ [rowA x, rowA y] ++ [ptr pb]) (HR h q d sp) (fun z h' => z = i64 (cmpR l x y) ∧ h' = HR h q d sp) :=
  cmpR_spec l B.hl B.hf x y pb _ (by rw [HR_ne B.ne]; exact B.hp)
def r50l1 : RCode :=
  (.seq (.seq (.region [
    ⟨(some 18), none, .pure, .mv (.tmp 9)⟩,
    ⟨(some 19), none, .pure, .mv (.tmp 1)⟩,
    ⟨(some 20), none, .pure, .bin .gtr (.tmp 18) (.tmp 19)⟩,
    ⟨(some 21), none, .pure, .mv (.tmp 20)⟩,
    ⟨(some 22), (some (21, true)), .pure, .mv (.tmp 3)⟩,
    ⟨(some 23), (some (21, true)), .pure, .mv (.tmp 0)⟩,
    ⟨(some 24), (some (21, true)), .pure, .mv (.tmp 9)⟩,
    ⟨(some 25), (some (21, true)), .pure, .indexAddr 1 (.tmp 23) (.tmp 24)⟩,
    ⟨(some 26), (some (21, true)), .read, .load false 1 (.tmp 25)⟩,
    ⟨(some 27), (some (21, true)), .pure, .mv (.tmp 0)⟩,
    ⟨(some 28), (some (21, true)), .pure, .mv (.tmp 9)⟩,
    ⟨(some 29), (some (21, true)), .pure, .bin .sub (.tmp 28) (.const (.int .i64 1))⟩,
    ⟨(some 30), (some (21, true)), .pure, .indexAddr 1 (.tmp 27) (.tmp 29)⟩,
    ⟨(some 31), (some (21, true)), .read, .load false 1 (.tmp 30)⟩,
    ⟨(some 32), (some (21, true)), .act, .callv (.tmp 22) [(.tmp 26), (.tmp 31)]⟩,
    ⟨(some 33), (some (21, true)), .pure, .bin .lss (.tmp 32) (.const (.int .i64 0))⟩,
    ⟨(some 34), none, .pure, .pick (.tmp 21) (.tmp 33) (.const (.bool false))⟩])
  (.cond (.tmp 34)
   .skip
   (.exit 2)))
  (.seq (.block 3
   (.region [
     ⟨(some 37), none, .pure, .mv (.tmp 0)⟩,
     ⟨(some 38), none, .pure, .mv (.tmp 9)⟩,
     ⟨(some 39), none, .pure, .mv (.tmp 0)⟩,
     ⟨(some 40), none, .pure, .mv (.tmp 9)⟩,
     ⟨(some 41), none, .pure, .bin .sub (.tmp 40) (.const (.int .i64 1))⟩,
     ⟨(some 42), none, .pure, .mv (.tmp 0)⟩,
     ⟨(some 43), none, .pure, .mv (.tmp 9)⟩,
     ⟨(some 44), none, .pure, .bin .sub (.tmp 43) (.const (.int .i64 1))⟩,
     ⟨(some 45), none, .pure, .indexAddr 1 (.tmp 42) (.tmp 44)⟩,
     ⟨(some 46), none, .read, .load false 1 (.tmp 45)⟩,
     ⟨(some 47), none, .pure, .mv (.tmp 0)⟩,
     ⟨(some 48), none, .pure, .mv (.tmp 9)⟩,
     ⟨(some 49), none, .pure, .indexAddr 1 (.tmp 47) (.tmp 48)⟩,
     ⟨(some 50), none, .read, .load false 1 (.tmp 49)⟩,
     ⟨(some 51), none, .pure, .indexAddr 1 (.tmp 37) (.tmp 38)⟩,
     ⟨none, none, .act, .store 1 (.tmp 51) (.tmp 46)⟩,
     ⟨(some 52), none, .pure, .indexAddr 1 (.tmp 39) (.tmp 41)⟩,
     ⟨none, none, .act, .store 1 (.tmp 52) (.tmp 50)⟩]))
  (.region [
    ⟨(some 35), none, .act, .mv (.tmp 9)⟩,
    ⟨(some 36), none, .act, .bin .sub (.tmp 35) (.const (.int .i64 1))⟩,
    ⟨(some 9), none, .act, .mv (.tmp 36)⟩])))
def r50l0 : RCode :=
  (.seq (.seq (.region [
    ⟨(some 12), none, .act, .mv (.tmp 8)⟩,
    ⟨(some 13), none, .act, .mv (.tmp 2)⟩,
    ⟨(some 14), none, .act, .bin .lss (.tmp 12) (.tmp 13)⟩])
  (.cond (.tmp 14)
   .skip
   (.exit 0)))
  (.seq (.block 1
   (.seq (.region [
     ⟨(some 17), none, .act, .mv (.tmp 8)⟩,
     ⟨(some 9), none, .act, .mv (.tmp 17)⟩])
   (.block 2
    (.loop r50l1))))
  (.region [
    ⟨(some 15), none, .act, .mv (.tmp 8)⟩,
    ⟨(some 16), none, .act, .bin .add (.tmp 15) (.const (.int .i64 1))⟩,
    ⟨(some 8), none, .act, .mv (.tmp 16)⟩])))
def r50 : RCode :=
  (.seq (.region [
    ⟨(some 10), none, .act, .mv (.tmp 1)⟩,
    ⟨(some 11), none, .act, .bin .add (.tmp 10) (.const (.int .i64 1))⟩,
    ⟨(some 8), none, .act, .mv (.tmp 11)⟩])
  (.block 0
   (.loop r50l0)))
theorem res50 : ∃ c, Try.f50.body = some c ∧ resCode Try.prog 53 c = some r50 := ⟨_, rfl, by kernel_rfl⟩
theorem rr50 : resRes Try.prog Try.f50.results.toList = some [] := by kernel_rfl
theorem isc_step {l : List (Int × Bool)} {h : AHeap} {pb q : Nat} (B : Box l h pb q) (n cap a b i j : Nat) (d : List Row) (x y : Row) (sp : List AV) (hn : n ≤ 1000000) (hd : d.length = n) (hj : a < j) (hjn : j < n) (hX : d[j]? = some x) (hY : d[j - 1]? = some y) (ks : List RT) (Q : AV → AHeap → Prop)
    (H1 : ltR l x y = true → RRun Try.prog Try.f50 53 (.inLoop r50l1 :: .inBlock 2 :: ks) (Env.get [(0, slAt q 0 n cap), (1, i64 a), (2, i64 b), (3, cmpA pb), (8, i64 i), (9, i64 (j - 1 : Nat))]) (HR h q ((d.set j y).set (j - 1) x) sp) Q)
    (H2 : ltR l x y = false → RRun Try.prog Try.f50 53 ks (Env.get [(0, slAt q 0 n cap), (1, i64 a), (2, i64 b), (3, cmpA pb), (8, i64 i)]) (HR h q d sp) Q) :
    RRun Try.prog Try.f50 53 (.inLoop r50l1 :: .inBlock 2 :: ks) (Env.get [(0, slAt q 0 n cap), (1, i64 a), (2, i64 b), (3, cmpA pb), (8, i64 i), (9, i64 j)]) (HR h q d sp) Q := by
  have c29 := B.cmp x y d sp
  have hsm := (cmpR_wo l).sm x y
  unfold ltR at H1 H2
  generalize cmpR l x y = o at c29 hsm H1 H2
  refine RRun.inLoop ?_
  rcases hsm with rfl | rfl | rfl
  · repeat' (first | (refine S.op0 rfl (stR rfl rfl rfl (by (try simp only [List.length_set]); omega) ?_)) | refine S.nilK ?_ | (refine S.op rfl ?_; first | refine S.subNN (n := 1) rfl rfl (by omega) (by omega) ?_ | refine S.ixN rfl rfl (by omega) ?_ | refine ldR (by decide) rfl hX ?_ | refine ldR (by decide) rfl hY ?_ | refine R.callAQ (by decide) rfl hp29 rfl c29 ?_ | refine R.mv rfl ?_ | refine R.pickT rfl rfl ?_ | ((first | refine S.lss rfl rfl ?_ ?_ | refine S.gtr rfl rfl ?_ ?_) <;> intro hlt <;> try (exfalso; omega))) | refine S.seq ?_ | refine S.region ?_ | refine S.condT rfl ?_ | refine RRun.skip ?_ | refine RRun.block ?_ | refine RRun.inBlock ?_)
    exact S.keep [0, 1, 2, 3, 8, 9] rfl (H1 (by decide))
  · repeat' (first | refine S.nilK ?_ | (refine S.op rfl ?_; first | refine S.subNN (n := 1) rfl rfl (by omega) (by omega) ?_ | refine S.ixN rfl rfl (by omega) ?_ | refine ldR (by decide) rfl hX ?_ | refine ldR (by decide) rfl hY ?_ | refine R.callAQ (by decide) rfl hp29 rfl c29 ?_ | refine R.mv rfl ?_ | refine R.pickT rfl rfl ?_ | ((first | refine S.lss rfl rfl ?_ ?_ | refine S.gtr rfl rfl ?_ ?_) <;> intro hlt <;> try (exfalso; omega))) | refine S.seq ?_ | refine S.region ?_ | refine S.condF rfl ?_ | refine RRun.exit rfl ?_)
    exact S.keep [0, 1, 2, 3, 8] rfl (H2 (by decide))
  · repeat' (first | refine S.nilK ?_ | (refine S.op rfl ?_; first | refine S.subNN (n := 1) rfl rfl (by omega) (by omega) ?_ | refine S.ixN rfl rfl (by omega) ?_ | refine ldR (by decide) rfl hX ?_ | refine ldR (by decide) rfl hY ?_ | refine R.callAQ (by decide) rfl hp29 rfl c29 ?_ | refine R.mv rfl ?_ | refine R.pickT rfl rfl ?_ | ((first | refine S.lss rfl rfl ?_ ?_ | refine S.gtr rfl rfl ?_ ?_) <;> intro hlt <;> try (exfalso; omega))) | refine S.seq ?_ | refine S.region ?_ | refine S.condF rfl ?_ | refine RRun.exit rfl ?_)
    exact S.keep [0, 1, 2, 3, 8] rfl (H2 (by decide))
theorem isc_in {l : List (Int × Bool)} {h : AHeap} {pb q : Nat} (B : Box l h pb q) (n cap a b i : Nat) (P Z T : List Row) (x : Row) (sp : List AV) (hn : n ≤ 1000000) (hd : P.length + (T.length + 1) + Z.length = n) (ha : a = P.length) (hT : St.Sorted (ltR l) T) (ks : List RT) (Q : AV → AHeap → Prop)
    (H : RRun Try.prog Try.f50 53 ks (Env.get [(0, slAt q 0 n cap), (1, i64 a), (2, i64 b), (3, cmpA pb), (8, i64 i)]) (HR h q (P ++ St.ins (ltR l) x T ++ Z) sp) Q) : ∀ (m : Nat) (L1 L2 : List Row) (j : Nat), j = a + m → L1.length = m → T = L1 ++ L2 → (∀ y, L2.head? = some y → ltR l x y = true) →
    RRun Try.prog Try.f50 53 (.inLoop r50l1 :: .inBlock 2 :: ks) (Env.get [(0, slAt q 0 n cap), (1, i64 a), (2, i64 b), (3, cmpA pb), (8, i64 i), (9, i64 j)]) (HR h q (P ++ (L1 ++ x :: L2) ++ Z) sp) Q := by
  intro m
  induction m with
  | zero =>
    intro L1 L2 j hj hm hTe h2
    subst hj
    have h0 := List.eq_nil_of_length_eq_zero hm
    subst h0
    have e : St.ins (ltR l) x T = [] ++ x :: L2 := by rw [hTe]; exact St.ins_at (fun y hy => by cases hy) h2
    rw [e] at H
    refine RRun.inLoop ?_
    repeat' (first | refine S.nilK ?_ | (refine S.op rfl ?_; first | refine R.mv rfl ?_ | refine R.pickF rfl rfl ?_ | ((first | refine S.gtr rfl rfl ?_ ?_) <;> intro hlt <;> try (exfalso; omega))) | refine S.skip rfl ?_ | refine S.seq ?_ | refine S.region ?_ | refine S.condF rfl ?_ | refine RRun.exit rfl ?_)
    exact S.keep [0, 1, 2, 3, 8] rfl H
  | succ m ih =>
    intro L1 L2 j hj hm hTe h2
    subst hj
    rcases List.eq_nil_or_concat L1 with h0 | ⟨L1, y, rfl⟩
    · rw [h0] at hm; simp at hm
    · rw [List.concat_eq_append] at *
      have hm' : L1.length = m := by simpa using hm
      have hX : (P ++ (L1 ++ [y] ++ x :: L2) ++ Z)[a + (m + 1)]? = some x := by
        have e : P ++ (L1 ++ [y] ++ x :: L2) ++ Z = (P ++ L1 ++ [y]) ++ x :: (L2 ++ Z) := by simp
        have e2 : a + (m + 1) = (P ++ L1 ++ [y]).length := by simp; omega
        rw [e, e2]; exact get_mid _ _ _
      have hY : (P ++ (L1 ++ [y] ++ x :: L2) ++ Z)[a + (m + 1) - 1]? = some y := by
        have e : P ++ (L1 ++ [y] ++ x :: L2) ++ Z = (P ++ L1) ++ y :: (x :: L2 ++ Z) := by simp
        have e2 : a + (m + 1) - 1 = (P ++ L1).length := by simp; omega
        rw [e, e2]; exact get_mid _ _ _
      have hlen : (L1 ++ L2).length + 1 = T.length := by rw [hTe]; simp; omega
      simp only [List.length_append] at hlen
      have e3 : ((P ++ (L1 ++ [y] ++ x :: L2) ++ Z).set (a + (m + 1)) y).set (a + (m + 1) - 1) x = P ++ (L1 ++ x :: y :: L2) ++ Z := by
        have e : P ++ (L1 ++ [y] ++ x :: L2) ++ Z = (P ++ L1 ++ [y]) ++ x :: (L2 ++ Z) := by simp
        have e2 : a + (m + 1) = (P ++ L1 ++ [y]).length := by simp; omega
        rw [e, e2, set_mid]
        have e : P ++ L1 ++ [y] ++ y :: (L2 ++ Z) = (P ++ L1) ++ y :: (y :: L2 ++ Z) := by simp
        have e2 : (P ++ L1 ++ [y]).length - 1 = (P ++ L1).length := by simp
        rw [e, e2, set_mid]; simp
      refine isc_step B n cap a b i (a + (m + 1)) _ x y sp hn (by simp; omega) (by omega) (by omega) hX hY ks Q (fun hlt => ?_) (fun hge => ?_)
      · rw [e3, show a + (m + 1) - 1 = a + m by omega]
        exact ih L1 (y :: L2) _ rfl hm' (by rw [hTe]; simp) (fun z hz => by cases hz; exact hlt)
      · have e : St.ins (ltR l) x T = (L1 ++ [y]) ++ x :: L2 := by
          rw [hTe]
          refine St.ins_at (fun z hz => ?_) h2
          rcases List.mem_append.1 hz with hz | hz
          · rw [hTe] at hT
            have h3 := List.pairwise_append.1 (List.pairwise_append.1 hT).1
            exact (ltR_sw l).neg _ _ _ hge (h3.2.2 z hz y (List.mem_singleton.2 rfl))
          · rw [List.mem_singleton.1 hz]; exact hge
        rw [e] at H
        exact H
theorem isc_out {l : List (Int × Bool)} {h : AHeap} {pb q : Nat} (B : Box l h pb q) (n cap a b : Nat) (P Z : List Row) (sp : List AV) (hn : n ≤ 1000000) (ha : a = P.length) (ks : List RT) (Q : AV → AHeap → Prop) : ∀ (U T : List Row) (i : Nat), St.Sorted (ltR l) T → i = a + T.length → b = i + U.length → P.length + T.length + U.length + Z.length = n →
    RRun Try.prog Try.f50 53 ks (Env.get []) (HR h q (P ++ U.foldl (fun acc x => St.ins (ltR l) x acc) T ++ Z) sp) Q →
    RRun Try.prog Try.f50 53 (.inLoop r50l0 :: .inBlock 0 :: ks) (Env.get [(0, slAt q 0 n cap), (1, i64 a), (2, i64 b), (3, cmpA pb), (8, i64 i)]) (HR h q (P ++ T ++ U ++ Z) sp) Q
  | [], T, i, hT, hi, hb, hlen, hk => by
    simp only [List.length_nil] at hb
    rw [List.append_nil]
    refine RRun.inLoop ?_
    repeat' (first | refine S.nilK ?_ | (refine S.op rfl ?_; first | refine R.mv rfl ?_ | ((first | refine S.lss rfl rfl ?_ ?_) <;> intro hlt <;> try (exfalso; omega))) | refine S.seq ?_ | refine S.region ?_ | refine S.condF rfl ?_ | refine RRun.exit rfl ?_)
    exact S.keep [] rfl hk
  | x :: U, T, i, hT, hi, hb, hlen, hk => by
    simp only [List.length_cons] at hb hlen
    have hl1 : (St.ins (ltR l) x T).length = T.length + 1 := by rw [St.ins_perm.length_eq]; simp
    have hih := isc_out B n cap a b P Z sp hn ha ks Q U (St.ins (ltR l) x T) (i + 1) (St.ins_sorted (ltR_sw l) hT) (by omega) (by omega) (by omega) hk
    have e1 : P ++ T ++ x :: U ++ Z = P ++ (T ++ x :: []) ++ (U ++ Z) := by simp
    have e2 : P ++ St.ins (ltR l) x T ++ U ++ Z = P ++ St.ins (ltR l) x T ++ (U ++ Z) := by simp
    rw [e1]
    rw [e2] at hih
    refine RRun.inLoop ?_
    repeat' (first | refine S.nilK ?_ | (refine S.op rfl ?_; first | refine R.mv rfl ?_ | ((first | refine S.lss rfl rfl ?_ ?_) <;> intro hlt <;> try (exfalso; omega))) | refine S.seq ?_ | refine S.region ?_ | refine S.condT rfl ?_ | refine RRun.skip ?_ | refine RRun.block ?_)
    refine RRun.loopIn (S.keep [0, 1, 2, 3, 8, 9] rfl (isc_in B n cap a b i P (U ++ Z) T x sp hn (by simp; omega) ha hT _ Q ?_ T.length T [] i hi rfl (by simp) (fun y hy => by cases hy)))
    repeat' (first | refine S.nilK ?_ | (refine S.op rfl ?_; first | refine R.mv rfl ?_ | refine S.addI rfl rfl (by omega) ?_) | refine S.region ?_ | refine RRun.inBlock ?_)
    rw [show ((i : Int) + 1) = ((i + 1 : Nat) : Int) by omega]
    exact S.keep [0, 1, 2, 3, 8] rfl hih
theorem insertion_spec {l : List (Int × Bool)} {h : AHeap} {pb q : Nat} (B : Box l h pb q) (n cap a b : Nat) (P A Z : List Row) (sp : List AV) (hn : n ≤ 1000000) (hA : A ≠ []) (ha : a = P.length) (hb : b = P.length + A.length) (hlen : P.length + A.length + Z.length = n) :
    ACalls Try.prog 50 [slAt q 0 n cap, i64 a, i64 b, cmpA pb] (HR h q (P ++ A ++ Z) sp) (fun _ h' => h' = HR h q (P ++ St.isort (ltR l) A ++ Z) sp) := by
  obtain ⟨c', hc1, hc2⟩ := res50
  refine ACalls.enter Try.func50 hc1 Try.ntmps50 hc2 (Nat.le_of_ble_eq_true rfl) rfl ?_
  obtain ⟨x, A, rfl⟩ := List.exists_cons_of_ne_nil hA
  simp only [List.length_cons] at hb hlen
  have e1 : P ++ x :: A ++ Z = P ++ [x] ++ A ++ Z := by simp
  have e2 : St.isort (ltR l) (x :: A) = A.foldl (fun acc x => St.ins (ltR l) x acc) [x] := rfl
  rw [e1, e2]
  repeat' (first | refine S.nilK ?_ | (refine S.op rfl ?_; first | refine R.mv rfl ?_ | refine S.addI rfl rfl (by omega) ?_) | refine S.seq ?_ | refine S.region ?_ | refine RRun.block ?_)
  rw [show ((a : Int) + 1) = ((a + 1 : Nat) : Int) by omega]
  refine RRun.loopIn (S.keep [0, 1, 2, 3, 8] rfl (isc_out B n cap a b P Z sp hn ha _ _ A [x] (a + 1) (by simp [St.Sorted]) rfl (by omega) (by simp; omega) ?_))
  repeat' (fail)
  apply S.done rr50
  case hx => repeat (first | exact ResAt.nil)
  rfl
end Go.Proofs.Ythadifboeggnpaa

namespace Go.Av
section
variable {P : Program} {c : Cls} {E : AEnv} {h : AHeap} {K : AV → AHeap → Prop}
theorem S.half {x : Operand} {n : Nat} (hx : aev E x = some (.v (.int .u64 (n : Int)))) (hk : K (.v (.int .u64 ((n / 2 : Nat) : Int))) h) : ROpS P c (.bin .shr x (.const (.int .u64 1))) E h K :=
  S.shrN (s := 1) (by decide) hx hk
theorem S.convI {x : Operand} {m : Nat} (hm : m ≤ 9223372036854775807) (hx : aev E x = some (.v (.int .u64 (m : Int)))) (hk : K (i64 m) h) : ROpS P c (.convInt .i64 x) E h K :=
  R.convInt hx (by rw [wrap_i64 (by omega) (by omega)]; exact hk)
end
theorem St.Falls.up {p : Nat → Bool} {lo hi k : Nat} (f : St.Falls p lo hi) (h1 : k < hi) (h2 : p k = true) : ∀ j, lo ≤ j → j < k + 1 → p j = true := fun j g1 g2 => f j k g1 (by omega) h1 h2
theorem St.Falls.down {p : Nat → Bool} {lo hi k : Nat} (f : St.Falls p lo hi) (h1 : lo ≤ k) (h2 : p k = false) : ∀ j, k ≤ j → j < hi → p j = false := fun j g1 g2 => by
  cases hj : p j with
  | false => rfl
  | true => rw [f k j h1 g1 g2 hj] at h2; cases h2
end Go.Av
namespace Go.Proofs.Ythadifboeggnpaa
open Go.Av
def r51l0 : RCode :=
  (.seq (.seq (.region [
    ⟨(some 31), none, .act, .mv (.tmp 10)⟩,
    ⟨(some 32), none, .act, .mv (.tmp 11)⟩,
    ⟨(some 33), none, .act, .bin .lss (.tmp 31) (.tmp 32)⟩])
  (.cond (.tmp 33)
   .skip
   (.exit 0)))
  (.block 1
   (.seq (.region [
     ⟨(some 34), none, .act, .mv (.tmp 10)⟩,
     ⟨(some 35), none, .act, .mv (.tmp 11)⟩,
     ⟨(some 36), none, .act, .bin .add (.tmp 34) (.tmp 35)⟩,
     ⟨(some 37), none, .act, .convInt .u64 (.tmp 36)⟩,
     ⟨(some 38), none, .act, .bin .shr (.tmp 37) (.const (.int .u64 1))⟩,
     ⟨(some 39), none, .act, .convInt .i64 (.tmp 38)⟩,
     ⟨(some 12), none, .act, .mv (.tmp 39)⟩])
   (.seq (.region [
     ⟨(some 40), none, .pure, .mv (.tmp 4)⟩,
     ⟨(some 41), none, .pure, .mv (.tmp 0)⟩,
     ⟨(some 42), none, .pure, .mv (.tmp 12)⟩,
     ⟨(some 43), none, .pure, .indexAddr 1 (.tmp 41) (.tmp 42)⟩,
     ⟨(some 44), none, .read, .load false 1 (.tmp 43)⟩,
     ⟨(some 45), none, .pure, .mv (.tmp 0)⟩,
     ⟨(some 46), none, .pure, .mv (.tmp 1)⟩,
     ⟨(some 47), none, .pure, .indexAddr 1 (.tmp 45) (.tmp 46)⟩,
     ⟨(some 48), none, .read, .load false 1 (.tmp 47)⟩,
     ⟨(some 49), none, .act, .callv (.tmp 40) [(.tmp 44), (.tmp 48)]⟩,
     ⟨(some 50), none, .pure, .bin .lss (.tmp 49) (.const (.int .i64 0))⟩])
   (.cond (.tmp 50)
    (.region [
      ⟨(some 51), none, .act, .mv (.tmp 12)⟩,
      ⟨(some 52), none, .act, .bin .add (.tmp 51) (.const (.int .i64 1))⟩,
      ⟨(some 10), none, .act, .mv (.tmp 52)⟩])
    (.region [
      ⟨(some 53), none, .act, .mv (.tmp 12)⟩,
      ⟨(some 11), none, .act, .mv (.tmp 53)⟩]))))))
def r51l1 : RCode :=
  (.seq (.seq (.region [
    ⟨(some 55), none, .act, .mv (.tmp 13)⟩,
    ⟨(some 56), none, .act, .mv (.tmp 10)⟩,
    ⟨(some 57), none, .act, .bin .sub (.tmp 56) (.const (.int .i64 1))⟩,
    ⟨(some 58), none, .act, .bin .lss (.tmp 55) (.tmp 57)⟩])
  (.cond (.tmp 58)
   .skip
   (.exit 2)))
  (.seq (.block 3
   (.region [
     ⟨(some 61), none, .pure, .mv (.tmp 0)⟩,
     ⟨(some 62), none, .pure, .mv (.tmp 13)⟩,
     ⟨(some 63), none, .pure, .mv (.tmp 0)⟩,
     ⟨(some 64), none, .pure, .mv (.tmp 13)⟩,
     ⟨(some 65), none, .pure, .bin .add (.tmp 64) (.const (.int .i64 1))⟩,
     ⟨(some 66), none, .pure, .mv (.tmp 0)⟩,
     ⟨(some 67), none, .pure, .mv (.tmp 13)⟩,
     ⟨(some 68), none, .pure, .bin .add (.tmp 67) (.const (.int .i64 1))⟩,
     ⟨(some 69), none, .pure, .indexAddr 1 (.tmp 66) (.tmp 68)⟩,
     ⟨(some 70), none, .read, .load false 1 (.tmp 69)⟩,
     ⟨(some 71), none, .pure, .mv (.tmp 0)⟩,
     ⟨(some 72), none, .pure, .mv (.tmp 13)⟩,
     ⟨(some 73), none, .pure, .indexAddr 1 (.tmp 71) (.tmp 72)⟩,
     ⟨(some 74), none, .read, .load false 1 (.tmp 73)⟩,
     ⟨(some 75), none, .pure, .indexAddr 1 (.tmp 61) (.tmp 62)⟩,
     ⟨none, none, .act, .store 1 (.tmp 75) (.tmp 70)⟩,
     ⟨(some 76), none, .pure, .indexAddr 1 (.tmp 63) (.tmp 65)⟩,
     ⟨none, none, .act, .store 1 (.tmp 76) (.tmp 74)⟩]))
  (.region [
    ⟨(some 59), none, .act, .mv (.tmp 13)⟩,
    ⟨(some 60), none, .act, .bin .add (.tmp 59) (.const (.int .i64 1))⟩,
    ⟨(some 13), none, .act, .mv (.tmp 60)⟩])))
def r51l2 : RCode :=
  (.seq (.seq (.region [
    ⟨(some 83), none, .act, .mv (.tmp 14)⟩,
    ⟨(some 84), none, .act, .mv (.tmp 15)⟩,
    ⟨(some 85), none, .act, .bin .lss (.tmp 83) (.tmp 84)⟩])
  (.cond (.tmp 85)
   .skip
   (.exit 4)))
  (.block 5
   (.seq (.region [
     ⟨(some 86), none, .act, .mv (.tmp 14)⟩,
     ⟨(some 87), none, .act, .mv (.tmp 15)⟩,
     ⟨(some 88), none, .act, .bin .add (.tmp 86) (.tmp 87)⟩,
     ⟨(some 89), none, .act, .convInt .u64 (.tmp 88)⟩,
     ⟨(some 90), none, .act, .bin .shr (.tmp 89) (.const (.int .u64 1))⟩,
     ⟨(some 91), none, .act, .convInt .i64 (.tmp 90)⟩,
     ⟨(some 16), none, .act, .mv (.tmp 91)⟩])
   (.seq (.region [
     ⟨(some 92), none, .pure, .mv (.tmp 4)⟩,
     ⟨(some 93), none, .pure, .mv (.tmp 0)⟩,
     ⟨(some 94), none, .pure, .mv (.tmp 2)⟩,
     ⟨(some 95), none, .pure, .indexAddr 1 (.tmp 93) (.tmp 94)⟩,
     ⟨(some 96), none, .read, .load false 1 (.tmp 95)⟩,
     ⟨(some 97), none, .pure, .mv (.tmp 0)⟩,
     ⟨(some 98), none, .pure, .mv (.tmp 16)⟩,
     ⟨(some 99), none, .pure, .indexAddr 1 (.tmp 97) (.tmp 98)⟩,
     ⟨(some 100), none, .read, .load false 1 (.tmp 99)⟩,
     ⟨(some 101), none, .act, .callv (.tmp 92) [(.tmp 96), (.tmp 100)]⟩,
     ⟨(some 102), none, .pure, .bin .lss (.tmp 101) (.const (.int .i64 0))⟩,
     ⟨(some 103), none, .pure, .un .not (.tmp 102)⟩])
   (.cond (.tmp 103)
    (.region [
      ⟨(some 104), none, .act, .mv (.tmp 16)⟩,
      ⟨(some 105), none, .act, .bin .add (.tmp 104) (.const (.int .i64 1))⟩,
      ⟨(some 14), none, .act, .mv (.tmp 105)⟩])
    (.region [
      ⟨(some 106), none, .act, .mv (.tmp 16)⟩,
      ⟨(some 15), none, .act, .mv (.tmp 106)⟩]))))))
def r51l3 : RCode :=
  (.seq (.seq (.region [
    ⟨(some 108), none, .act, .mv (.tmp 17)⟩,
    ⟨(some 109), none, .act, .mv (.tmp 14)⟩,
    ⟨(some 110), none, .act, .bin .gtr (.tmp 108) (.tmp 109)⟩])
  (.cond (.tmp 110)
   .skip
   (.exit 6)))
  (.seq (.block 7
   (.region [
     ⟨(some 113), none, .pure, .mv (.tmp 0)⟩,
     ⟨(some 114), none, .pure, .mv (.tmp 17)⟩,
     ⟨(some 115), none, .pure, .mv (.tmp 0)⟩,
     ⟨(some 116), none, .pure, .mv (.tmp 17)⟩,
     ⟨(some 117), none, .pure, .bin .sub (.tmp 116) (.const (.int .i64 1))⟩,
     ⟨(some 118), none, .pure, .mv (.tmp 0)⟩,
     ⟨(some 119), none, .pure, .mv (.tmp 17)⟩,
     ⟨(some 120), none, .pure, .bin .sub (.tmp 119) (.const (.int .i64 1))⟩,
     ⟨(some 121), none, .pure, .indexAddr 1 (.tmp 118) (.tmp 120)⟩,
     ⟨(some 122), none, .read, .load false 1 (.tmp 121)⟩,
     ⟨(some 123), none, .pure, .mv (.tmp 0)⟩,
     ⟨(some 124), none, .pure, .mv (.tmp 17)⟩,
     ⟨(some 125), none, .pure, .indexAddr 1 (.tmp 123) (.tmp 124)⟩,
     ⟨(some 126), none, .read, .load false 1 (.tmp 125)⟩,
     ⟨(some 127), none, .pure, .indexAddr 1 (.tmp 113) (.tmp 114)⟩,
     ⟨none, none, .act, .store 1 (.tmp 127) (.tmp 122)⟩,
     ⟨(some 128), none, .pure, .indexAddr 1 (.tmp 115) (.tmp 117)⟩,
     ⟨none, none, .act, .store 1 (.tmp 128) (.tmp 126)⟩]))
  (.region [
    ⟨(some 111), none, .act, .mv (.tmp 17)⟩,
    ⟨(some 112), none, .act, .bin .sub (.tmp 111) (.const (.int .i64 1))⟩,
    ⟨(some 17), none, .act, .mv (.tmp 112)⟩])))
def r51l4 : RCode :=
  (.seq (.seq (.region [
    ⟨(some 149), none, .act, .mv (.tmp 20)⟩,
    ⟨(some 150), none, .act, .mv (.tmp 21)⟩,
    ⟨(some 151), none, .act, .bin .lss (.tmp 149) (.tmp 150)⟩])
  (.cond (.tmp 151)
   .skip
   (.exit 8)))
  (.block 9
   (.seq (.region [
     ⟨(some 152), none, .act, .mv (.tmp 20)⟩,
     ⟨(some 153), none, .act, .mv (.tmp 21)⟩,
     ⟨(some 154), none, .act, .bin .add (.tmp 152) (.tmp 153)⟩,
     ⟨(some 155), none, .act, .convInt .u64 (.tmp 154)⟩,
     ⟨(some 156), none, .act, .bin .shr (.tmp 155) (.const (.int .u64 1))⟩,
     ⟨(some 157), none, .act, .convInt .i64 (.tmp 156)⟩,
     ⟨(some 23), none, .act, .mv (.tmp 157)⟩])
   (.seq (.region [
     ⟨(some 158), none, .pure, .mv (.tmp 4)⟩,
     ⟨(some 159), none, .pure, .mv (.tmp 0)⟩,
     ⟨(some 160), none, .pure, .mv (.tmp 22)⟩,
     ⟨(some 161), none, .pure, .mv (.tmp 23)⟩,
     ⟨(some 162), none, .pure, .bin .sub (.tmp 160) (.tmp 161)⟩,
     ⟨(some 163), none, .pure, .indexAddr 1 (.tmp 159) (.tmp 162)⟩,
     ⟨(some 164), none, .read, .load false 1 (.tmp 163)⟩,
     ⟨(some 165), none, .pure, .mv (.tmp 0)⟩,
     ⟨(some 166), none, .pure, .mv (.tmp 23)⟩,
     ⟨(some 167), none, .pure, .indexAddr 1 (.tmp 165) (.tmp 166)⟩,
     ⟨(some 168), none, .read, .load false 1 (.tmp 167)⟩,
     ⟨(some 169), none, .act, .callv (.tmp 158) [(.tmp 164), (.tmp 168)]⟩,
     ⟨(some 170), none, .pure, .bin .lss (.tmp 169) (.const (.int .i64 0))⟩,
     ⟨(some 171), none, .pure, .un .not (.tmp 170)⟩])
   (.cond (.tmp 171)
    (.region [
      ⟨(some 172), none, .act, .mv (.tmp 23)⟩,
      ⟨(some 173), none, .act, .bin .add (.tmp 172) (.const (.int .i64 1))⟩,
      ⟨(some 20), none, .act, .mv (.tmp 173)⟩])
    (.region [
      ⟨(some 174), none, .act, .mv (.tmp 23)⟩,
      ⟨(some 21), none, .act, .mv (.tmp 174)⟩]))))))
def r51 : RCode :=
  (.seq (.seq (.region [
    ⟨(some 25), none, .act, .mv (.tmp 2)⟩,
    ⟨(some 26), none, .act, .mv (.tmp 1)⟩,
    ⟨(some 27), none, .act, .bin .sub (.tmp 25) (.tmp 26)⟩,
    ⟨(some 28), none, .act, .eq false .int (.tmp 27) (.const (.int .i64 1))⟩])
  (.cond (.tmp 28)
   (.seq (.region [
     ⟨(some 29), none, .act, .mv (.tmp 2)⟩,
     ⟨(some 10), none, .act, .mv (.tmp 29)⟩])
   (.seq (.region [
     ⟨(some 30), none, .act, .mv (.tmp 3)⟩,
     ⟨(some 11), none, .act, .mv (.tmp 30)⟩])
   (.seq (.block 0
    (.loop r51l0))
   (.seq (.seq (.region [
     ⟨(some 54), none, .act, .mv (.tmp 1)⟩,
     ⟨(some 13), none, .act, .mv (.tmp 54)⟩])
   (.block 2
    (.loop r51l1)))
   .ret))))
   .skip))
  (.seq (.seq (.region [
    ⟨(some 77), none, .act, .mv (.tmp 3)⟩,
    ⟨(some 78), none, .act, .mv (.tmp 2)⟩,
    ⟨(some 79), none, .act, .bin .sub (.tmp 77) (.tmp 78)⟩,
    ⟨(some 80), none, .act, .eq false .int (.tmp 79) (.const (.int .i64 1))⟩])
  (.cond (.tmp 80)
   (.seq (.region [
     ⟨(some 81), none, .act, .mv (.tmp 1)⟩,
     ⟨(some 14), none, .act, .mv (.tmp 81)⟩])
   (.seq (.region [
     ⟨(some 82), none, .act, .mv (.tmp 2)⟩,
     ⟨(some 15), none, .act, .mv (.tmp 82)⟩])
   (.seq (.block 4
    (.loop r51l2))
   (.seq (.seq (.region [
     ⟨(some 107), none, .act, .mv (.tmp 2)⟩,
     ⟨(some 17), none, .act, .mv (.tmp 107)⟩])
   (.block 6
    (.loop r51l3)))
   .ret))))
   .skip))
  (.seq (.region [
    ⟨(some 129), none, .act, .mv (.tmp 1)⟩,
    ⟨(some 130), none, .act, .mv (.tmp 3)⟩,
    ⟨(some 131), none, .act, .bin .add (.tmp 129) (.tmp 130)⟩,
    ⟨(some 132), none, .act, .convInt .u64 (.tmp 131)⟩,
    ⟨(some 133), none, .act, .bin .shr (.tmp 132) (.const (.int .u64 1))⟩,
    ⟨(some 134), none, .act, .convInt .i64 (.tmp 133)⟩,
    ⟨(some 18), none, .act, .mv (.tmp 134)⟩])
  (.seq (.region [
    ⟨(some 135), none, .act, .mv (.tmp 18)⟩,
    ⟨(some 136), none, .act, .mv (.tmp 2)⟩,
    ⟨(some 137), none, .act, .bin .add (.tmp 135) (.tmp 136)⟩,
    ⟨(some 19), none, .act, .mv (.tmp 137)⟩])
  (.seq (.region [
    ⟨(some 20), none, .act, .mv (.const (.int .i64 0))⟩,
    ⟨(some 21), none, .act, .mv (.const (.int .i64 0))⟩])
  (.seq (.seq (.region [
    ⟨(some 138), none, .act, .mv (.tmp 2)⟩,
    ⟨(some 139), none, .act, .mv (.tmp 18)⟩,
    ⟨(some 140), none, .act, .bin .gtr (.tmp 138) (.tmp 139)⟩])
  (.cond (.tmp 140)
   (.seq (.region [
     ⟨(some 141), none, .act, .mv (.tmp 19)⟩,
     ⟨(some 142), none, .act, .mv (.tmp 3)⟩,
     ⟨(some 143), none, .act, .bin .sub (.tmp 141) (.tmp 142)⟩,
     ⟨(some 20), none, .act, .mv (.tmp 143)⟩])
   (.region [
     ⟨(some 144), none, .act, .mv (.tmp 18)⟩,
     ⟨(some 21), none, .act, .mv (.tmp 144)⟩]))
   (.seq (.region [
     ⟨(some 145), none, .act, .mv (.tmp 1)⟩,
     ⟨(some 20), none, .act, .mv (.tmp 145)⟩])
   (.region [
     ⟨(some 146), none, .act, .mv (.tmp 2)⟩,
     ⟨(some 21), none, .act, .mv (.tmp 146)⟩]))))
  (.seq (.region [
    ⟨(some 147), none, .act, .mv (.tmp 19)⟩,
    ⟨(some 148), none, .act, .bin .sub (.tmp 147) (.const (.int .i64 1))⟩,
    ⟨(some 22), none, .act, .mv (.tmp 148)⟩])
  (.seq (.block 8
   (.loop r51l4))
  (.seq (.region [
    ⟨(some 175), none, .act, .mv (.tmp 19)⟩,
    ⟨(some 176), none, .act, .mv (.tmp 20)⟩,
    ⟨(some 177), none, .act, .bin .sub (.tmp 175) (.tmp 176)⟩,
    ⟨(some 24), none, .act, .mv (.tmp 177)⟩])
  (.seq (.seq (.region [
    ⟨(some 178), none, .act, .mv (.tmp 20)⟩,
    ⟨(some 179), none, .act, .mv (.tmp 2)⟩,
    ⟨(some 180), none, .act, .bin .lss (.tmp 178) (.tmp 179)⟩,
    ⟨(some 181), none, .act, .mv (.tmp 180)⟩,
    ⟨(some 182), (some (181, true)), .act, .mv (.tmp 2)⟩,
    ⟨(some 183), (some (181, true)), .act, .mv (.tmp 24)⟩,
    ⟨(some 184), (some (181, true)), .act, .bin .lss (.tmp 182) (.tmp 183)⟩,
    ⟨(some 185), none, .act, .pick (.tmp 181) (.tmp 184) (.const (.bool false))⟩])
  (.cond (.tmp 185)
   (.region [
     ⟨(some 186), none, .act, .mv (.tmp 0)⟩,
     ⟨(some 187), none, .act, .mv (.tmp 20)⟩,
     ⟨(some 188), none, .act, .mv (.tmp 2)⟩,
     ⟨(some 189), none, .act, .mv (.tmp 24)⟩,
     ⟨(some 190), none, .act, .mv (.tmp 4)⟩,
     ⟨(some 191), none, .act, .call 61 [(.tmp 186), (.tmp 187), (.tmp 188), (.tmp 189), (.tmp 190)]⟩])
   .skip))
  (.seq (.seq (.region [
    ⟨(some 192), none, .act, .mv (.tmp 1)⟩,
    ⟨(some 193), none, .act, .mv (.tmp 20)⟩,
    ⟨(some 194), none, .act, .bin .lss (.tmp 192) (.tmp 193)⟩,
    ⟨(some 195), none, .act, .mv (.tmp 194)⟩,
    ⟨(some 196), (some (195, true)), .act, .mv (.tmp 20)⟩,
    ⟨(some 197), (some (195, true)), .act, .mv (.tmp 18)⟩,
    ⟨(some 198), (some (195, true)), .act, .bin .lss (.tmp 196) (.tmp 197)⟩,
    ⟨(some 199), none, .act, .pick (.tmp 195) (.tmp 198) (.const (.bool false))⟩])
  (.cond (.tmp 199)
   (.region [
     ⟨(some 200), none, .act, .mv (.tmp 0)⟩,
     ⟨(some 201), none, .act, .mv (.tmp 1)⟩,
     ⟨(some 202), none, .act, .mv (.tmp 20)⟩,
     ⟨(some 203), none, .act, .mv (.tmp 18)⟩,
     ⟨(some 204), none, .act, .mv (.tmp 4)⟩,
     ⟨(some 205), none, .act, .call 51 [(.tmp 200), (.tmp 201), (.tmp 202), (.tmp 203), (.tmp 204)]⟩])
   .skip))
  (.seq (.region [
    ⟨(some 206), none, .act, .mv (.tmp 18)⟩,
    ⟨(some 207), none, .act, .mv (.tmp 24)⟩,
    ⟨(some 208), none, .act, .bin .lss (.tmp 206) (.tmp 207)⟩,
    ⟨(some 209), none, .act, .mv (.tmp 208)⟩,
    ⟨(some 210), (some (209, true)), .act, .mv (.tmp 24)⟩,
    ⟨(some 211), (some (209, true)), .act, .mv (.tmp 3)⟩,
    ⟨(some 212), (some (209, true)), .act, .bin .lss (.tmp 210) (.tmp 211)⟩,
    ⟨(some 213), none, .act, .pick (.tmp 209) (.tmp 212) (.const (.bool false))⟩])
  (.cond (.tmp 213)
   (.region [
     ⟨(some 214), none, .act, .mv (.tmp 0)⟩,
     ⟨(some 215), none, .act, .mv (.tmp 18)⟩,
     ⟨(some 216), none, .act, .mv (.tmp 24)⟩,
     ⟨(some 217), none, .act, .mv (.tmp 3)⟩,
     ⟨(some 218), none, .act, .mv (.tmp 4)⟩,
     ⟨(some 219), none, .act, .call 51 [(.tmp 214), (.tmp 215), (.tmp 216), (.tmp 217), (.tmp 218)]⟩])
   .skip)))))))))))))
theorem res51 : ∃ c, Try.f51.body = some c ∧ resCode Try.prog 220 c = some r51 := ⟨_, rfl, by kernel_rfl⟩
theorem rr51 : resRes Try.prog Try.f51.results.toList = some [] := by kernel_rfl
theorem sy_find0 {l : List (Int × Bool)} {h : AHeap} {pb q : Nat} (B : Box l h pb q) (n cap a m b : Nat) (d : List Row) (sp : List AV) (hn : n ≤ 1000000) (hd : d.length = n) (ha : a < n) (hb : b ≤ n) (hf : St.Falls (fun k => ltR l (St.gd d k) (St.gd d a)) m b) (ks : List RT) (Q : AV → AHeap → Prop)
    (H : ∀ r, St.Found (fun k => ltR l (St.gd d k) (St.gd d a)) m b r → RRun Try.prog Try.f51 220 ks (Env.get [(0, slAt q 0 n cap), (1, i64 a), (10, i64 r)]) (HR h q d sp) Q) : ∀ (fu i j : Nat), j - i ≤ fu → m ≤ i → i ≤ j → j ≤ b → (∀ k, m ≤ k → k < i → ltR l (St.gd d k) (St.gd d a) = true) → (∀ k, j ≤ k → k < b → ltR l (St.gd d k) (St.gd d a) = false) →
    RRun Try.prog Try.f51 220 (.inLoop r51l0 :: .inBlock 0 :: ks) (Env.get [(0, slAt q 0 n cap), (1, i64 a), (4, cmpA pb), (10, i64 i), (11, i64 j)]) (HR h q d sp) Q := by
  have fin : ∀ i, m ≤ i → i ≤ b → (∀ k, m ≤ k → k < i → ltR l (St.gd d k) (St.gd d a) = true) → (∀ k, i ≤ k → k < b → ltR l (St.gd d k) (St.gd d a) = false) →
      RRun Try.prog Try.f51 220 (.inLoop r51l0 :: .inBlock 0 :: ks) (Env.get [(0, slAt q 0 n cap), (1, i64 a), (4, cmpA pb), (10, i64 i), (11, i64 i)]) (HR h q d sp) Q := by
    intro i h1 h2 h3 h4
    refine RRun.inLoop ?_
    repeat' (first | refine S.nilK ?_ | (refine S.op rfl ?_; first | refine R.mv rfl ?_ | ((first | refine S.lss rfl rfl ?_ ?_) <;> intro hlt <;> try (exfalso; omega))) | refine S.seq ?_ | refine S.region ?_ | refine S.condF rfl ?_ | refine RRun.exit rfl ?_)
    exact S.keep [0, 1, 10] rfl (H i ⟨h1, h2, h3, h4⟩)
  intro fu
  induction fu with
  | zero =>
    intro i j hfu h1 h2 h3 hy hno
    have : j = i := by omega
    subst this
    exact fin j h1 h3 hy hno
  | succ fu ih =>
    intro i j hfu h1 h2 h3 hy hno
    rcases Nat.lt_or_eq_of_le h2 with hij | rfl
    · have c29 := B.cmp (St.gd d ((i + j) / 2)) (St.gd d a) d sp
      have hX := St.gd_some (d := d) (k := (i + j) / 2) (by omega)
      have hY := St.gd_some (d := d) (k := a) (by omega)
      have hsm := (cmpR_wo l).sm (St.gd d ((i + j) / 2)) (St.gd d a)
      have hcm : ltR l (St.gd d ((i + j) / 2)) (St.gd d a) = decide (cmpR l (St.gd d ((i + j) / 2)) (St.gd d a) < 0) := rfl
      have i1 := ih ((i + j) / 2 + 1) j (by omega) (by omega) (by omega) h3
      have i2 := ih i ((i + j) / 2) (by omega) h1 (by omega) (by omega) hy
      have u1 := hf.up (k := (i + j) / 2) (by omega)
      have u2 := hf.down (k := (i + j) / 2) (by omega)
      generalize cmpR l (St.gd d ((i + j) / 2)) (St.gd d a) = o at c29 hsm hcm
      refine RRun.inLoop ?_
      rcases hsm with rfl | rfl | rfl
      · repeat' (first | refine S.nilK ?_ | (refine S.op rfl ?_; first | refine S.addNN (n := 1) rfl rfl (by omega) ?_ | refine S.addNN rfl rfl (by omega) ?_ | refine S.ixN rfl rfl (by omega) ?_ | refine S.convU (by omega) rfl ?_ | refine S.half rfl ?_ | refine S.convI (by omega) rfl ?_ | refine ldR (by decide) rfl hX ?_ | refine ldR (by decide) rfl hY ?_ | refine R.callAQ (by decide) rfl hp29 rfl c29 ?_ | refine R.mv rfl ?_ | ((first | refine S.lss rfl rfl ?_ ?_) <;> intro hlt <;> try (exfalso; omega))) | refine S.seq ?_ | refine S.region ?_ | refine S.condT rfl ?_ | refine RRun.skip ?_ | refine RRun.block ?_ | refine RRun.inBlock ?_)
        exact S.keep [0, 1, 4, 10, 11] rfl (i1 (u1 (by rw [hcm]; decide)) hno)
      · repeat' (first | refine S.nilK ?_ | (refine S.op rfl ?_; first | refine S.addNN rfl rfl (by omega) ?_ | refine S.ixN rfl rfl (by omega) ?_ | refine S.convU (by omega) rfl ?_ | refine S.half rfl ?_ | refine S.convI (by omega) rfl ?_ | refine ldR (by decide) rfl hX ?_ | refine ldR (by decide) rfl hY ?_ | refine R.callAQ (by decide) rfl hp29 rfl c29 ?_ | refine R.mv rfl ?_ | ((first | refine S.lss rfl rfl ?_ ?_) <;> intro hlt <;> try (exfalso; omega))) | refine S.seq ?_ | refine S.region ?_ | refine S.condT rfl ?_ | refine S.condF rfl ?_ | refine RRun.skip ?_ | refine RRun.block ?_ | refine RRun.inBlock ?_)
        exact S.keep [0, 1, 4, 10, 11] rfl (i2 (u2 (by rw [hcm]; decide)))
      · repeat' (first | refine S.nilK ?_ | (refine S.op rfl ?_; first | refine S.addNN rfl rfl (by omega) ?_ | refine S.ixN rfl rfl (by omega) ?_ | refine S.convU (by omega) rfl ?_ | refine S.half rfl ?_ | refine S.convI (by omega) rfl ?_ | refine ldR (by decide) rfl hX ?_ | refine ldR (by decide) rfl hY ?_ | refine R.callAQ (by decide) rfl hp29 rfl c29 ?_ | refine R.mv rfl ?_ | ((first | refine S.lss rfl rfl ?_ ?_) <;> intro hlt <;> try (exfalso; omega))) | refine S.seq ?_ | refine S.region ?_ | refine S.condT rfl ?_ | refine S.condF rfl ?_ | refine RRun.skip ?_ | refine RRun.block ?_ | refine RRun.inBlock ?_)
        exact S.keep [0, 1, 4, 10, 11] rfl (i2 (u2 (by rw [hcm]; decide)))
    · exact fin i h1 h3 hy hno
theorem sy_find2 {l : List (Int × Bool)} {h : AHeap} {pb q : Nat} (B : Box l h pb q) (n cap a m : Nat) (d : List Row) (sp : List AV) (hn : n ≤ 1000000) (hd : d.length = n) (hm : m < n) (hf : St.Falls (fun k => !ltR l (St.gd d m) (St.gd d k)) a m) (ks : List RT) (Q : AV → AHeap → Prop)
    (H : ∀ r, St.Found (fun k => !ltR l (St.gd d m) (St.gd d k)) a m r → RRun Try.prog Try.f51 220 ks (Env.get [(0, slAt q 0 n cap), (2, i64 m), (14, i64 r)]) (HR h q d sp) Q) : ∀ (fu i j : Nat), j - i ≤ fu → a ≤ i → i ≤ j → j ≤ m → (∀ k, a ≤ k → k < i → (!ltR l (St.gd d m) (St.gd d k)) = true) → (∀ k, j ≤ k → k < m → (!ltR l (St.gd d m) (St.gd d k)) = false) →
    RRun Try.prog Try.f51 220 (.inLoop r51l2 :: .inBlock 4 :: ks) (Env.get [(0, slAt q 0 n cap), (2, i64 m), (4, cmpA pb), (14, i64 i), (15, i64 j)]) (HR h q d sp) Q := by
  have fin : ∀ i, a ≤ i → i ≤ m → (∀ k, a ≤ k → k < i → (!ltR l (St.gd d m) (St.gd d k)) = true) → (∀ k, i ≤ k → k < m → (!ltR l (St.gd d m) (St.gd d k)) = false) →
      RRun Try.prog Try.f51 220 (.inLoop r51l2 :: .inBlock 4 :: ks) (Env.get [(0, slAt q 0 n cap), (2, i64 m), (4, cmpA pb), (14, i64 i), (15, i64 i)]) (HR h q d sp) Q := by
    intro i h1 h2 h3 h4
    refine RRun.inLoop ?_
    repeat' (first | refine S.nilK ?_ | (refine S.op rfl ?_; first | refine R.mv rfl ?_ | ((first | refine S.lss rfl rfl ?_ ?_) <;> intro hlt <;> try (exfalso; omega))) | refine S.seq ?_ | refine S.region ?_ | refine S.condF rfl ?_ | refine RRun.exit rfl ?_)
    exact S.keep [0, 2, 14] rfl (H i ⟨h1, h2, h3, h4⟩)
  intro fu
  induction fu with
  | zero =>
    intro i j hfu h1 h2 h3 hy hno
    have : j = i := by omega
    subst this
    exact fin j h1 h3 hy hno
  | succ fu ih =>
    intro i j hfu h1 h2 h3 hy hno
    rcases Nat.lt_or_eq_of_le h2 with hij | rfl
    · have c29 := B.cmp (St.gd d m) (St.gd d ((i + j) / 2)) d sp
      have hX := St.gd_some (d := d) (k := (i + j) / 2) (by omega)
      have hY := St.gd_some (d := d) (k := m) (by omega)
      have hsm := (cmpR_wo l).sm (St.gd d m) (St.gd d ((i + j) / 2))
      have hcm : ltR l (St.gd d m) (St.gd d ((i + j) / 2)) = decide (cmpR l (St.gd d m) (St.gd d ((i + j) / 2)) < 0) := rfl
      have i1 := ih ((i + j) / 2 + 1) j (by omega) (by omega) (by omega) h3
      have i2 := ih i ((i + j) / 2) (by omega) h1 (by omega) (by omega) hy
      have u1 := hf.up (k := (i + j) / 2) (by omega)
      have u2 := hf.down (k := (i + j) / 2) (by omega)
      generalize cmpR l (St.gd d m) (St.gd d ((i + j) / 2)) = o at c29 hsm hcm
      refine RRun.inLoop ?_
      rcases hsm with rfl | rfl | rfl
      · repeat' (first | refine S.nilK ?_ | (refine S.op rfl ?_; first | refine S.addNN rfl rfl (by omega) ?_ | refine S.ixN rfl rfl (by omega) ?_ | refine S.convU (by omega) rfl ?_ | refine S.half rfl ?_ | refine S.convI (by omega) rfl ?_ | refine ldR (by decide) rfl hX ?_ | refine ldR (by decide) rfl hY ?_ | refine R.callAQ (by decide) rfl hp29 rfl c29 ?_ | refine R.mv rfl ?_ | refine R.not rfl ?_ | ((first | refine S.lss rfl rfl ?_ ?_) <;> intro hlt <;> try (exfalso; omega))) | refine S.seq ?_ | refine S.region ?_ | refine S.condT rfl ?_ | refine S.condF rfl ?_ | refine RRun.skip ?_ | refine RRun.block ?_ | refine RRun.inBlock ?_)
        exact S.keep [0, 2, 4, 14, 15] rfl (i2 (u2 (by rw [hcm]; decide)))
      · repeat' (first | refine S.nilK ?_ | (refine S.op rfl ?_; first | refine S.addNN (n := 1) rfl rfl (by omega) ?_ | refine S.addNN rfl rfl (by omega) ?_ | refine S.ixN rfl rfl (by omega) ?_ | refine S.convU (by omega) rfl ?_ | refine S.half rfl ?_ | refine S.convI (by omega) rfl ?_ | refine ldR (by decide) rfl hX ?_ | refine ldR (by decide) rfl hY ?_ | refine R.callAQ (by decide) rfl hp29 rfl c29 ?_ | refine R.mv rfl ?_ | refine R.not rfl ?_ | ((first | refine S.lss rfl rfl ?_ ?_) <;> intro hlt <;> try (exfalso; omega))) | refine S.seq ?_ | refine S.region ?_ | refine S.condT rfl ?_ | refine RRun.skip ?_ | refine RRun.block ?_ | refine RRun.inBlock ?_)
        exact S.keep [0, 2, 4, 14, 15] rfl (i1 (u1 (by rw [hcm]; decide)) hno)
      · repeat' (first | refine S.nilK ?_ | (refine S.op rfl ?_; first | refine S.addNN (n := 1) rfl rfl (by omega) ?_ | refine S.addNN rfl rfl (by omega) ?_ | refine S.ixN rfl rfl (by omega) ?_ | refine S.convU (by omega) rfl ?_ | refine S.half rfl ?_ | refine S.convI (by omega) rfl ?_ | refine ldR (by decide) rfl hX ?_ | refine ldR (by decide) rfl hY ?_ | refine R.callAQ (by decide) rfl hp29 rfl c29 ?_ | refine R.mv rfl ?_ | refine R.not rfl ?_ | ((first | refine S.lss rfl rfl ?_ ?_) <;> intro hlt <;> try (exfalso; omega))) | refine S.seq ?_ | refine S.region ?_ | refine S.condT rfl ?_ | refine RRun.skip ?_ | refine RRun.block ?_ | refine RRun.inBlock ?_)
        exact S.keep [0, 2, 4, 14, 15] rfl (i1 (u1 (by rw [hcm]; decide)) hno)
    · exact fin i h1 h3 hy hno
theorem sy_find4 {l : List (Int × Bool)} {h : AHeap} {pb q : Nat} (B : Box l h pb q) (n cap a m b mid N p lo hi : Nat) (d : List Row) (sp : List AV) (hn : n ≤ 1000000) (hd : d.length = n) (hp1 : hi ≤ p + 1) (hp2 : p < lo + n) (hhi : hi ≤ n) (hf : St.Falls (fun k => !ltR l (St.gd d (p - k)) (St.gd d k)) lo hi) (ks : List RT) (Q : AV → AHeap → Prop)
    (H : ∀ r, St.Found (fun k => !ltR l (St.gd d (p - k)) (St.gd d k)) lo hi r → RRun Try.prog Try.f51 220 ks (Env.get [(0, slAt q 0 n cap), (1, i64 a), (2, i64 m), (3, i64 b), (4, cmpA pb), (18, i64 mid), (19, i64 N), (20, i64 r)]) (HR h q d sp) Q) : ∀ (fu i j : Nat), j - i ≤ fu → lo ≤ i → i ≤ j → j ≤ hi → (∀ k, lo ≤ k → k < i → (!ltR l (St.gd d (p - k)) (St.gd d k)) = true) → (∀ k, j ≤ k → k < hi → (!ltR l (St.gd d (p - k)) (St.gd d k)) = false) →
    RRun Try.prog Try.f51 220 (.inLoop r51l4 :: .inBlock 8 :: ks) (Env.get [(0, slAt q 0 n cap), (1, i64 a), (2, i64 m), (3, i64 b), (4, cmpA pb), (18, i64 mid), (19, i64 N), (20, i64 i), (21, i64 j), (22, i64 p)]) (HR h q d sp) Q := by
  have fin : ∀ i, lo ≤ i → i ≤ hi → (∀ k, lo ≤ k → k < i → (!ltR l (St.gd d (p - k)) (St.gd d k)) = true) → (∀ k, i ≤ k → k < hi → (!ltR l (St.gd d (p - k)) (St.gd d k)) = false) →
      RRun Try.prog Try.f51 220 (.inLoop r51l4 :: .inBlock 8 :: ks) (Env.get [(0, slAt q 0 n cap), (1, i64 a), (2, i64 m), (3, i64 b), (4, cmpA pb), (18, i64 mid), (19, i64 N), (20, i64 i), (21, i64 i), (22, i64 p)]) (HR h q d sp) Q := by
    intro i h1 h2 h3 h4
    refine RRun.inLoop ?_
    repeat' (first | refine S.nilK ?_ | (refine S.op rfl ?_; first | refine R.mv rfl ?_ | ((first | refine S.lss rfl rfl ?_ ?_) <;> intro hlt <;> try (exfalso; omega))) | refine S.seq ?_ | refine S.region ?_ | refine S.condF rfl ?_ | refine RRun.exit rfl ?_)
    exact S.keep [0, 1, 2, 3, 4, 18, 19, 20] rfl (H i ⟨h1, h2, h3, h4⟩)
  intro fu
  induction fu with
  | zero =>
    intro i j hfu h1 h2 h3 hy hno
    have : j = i := by omega
    subst this
    exact fin j h1 h3 hy hno
  | succ fu ih =>
    intro i j hfu h1 h2 h3 hy hno
    rcases Nat.lt_or_eq_of_le h2 with hij | rfl
    · have c29 := B.cmp (St.gd d (p - (i + j) / 2)) (St.gd d ((i + j) / 2)) d sp
      have hX := St.gd_some (d := d) (k := p - (i + j) / 2) (by omega)
      have hY := St.gd_some (d := d) (k := (i + j) / 2) (by omega)
      have hsm := (cmpR_wo l).sm (St.gd d (p - (i + j) / 2)) (St.gd d ((i + j) / 2))
      have hcm : ltR l (St.gd d (p - (i + j) / 2)) (St.gd d ((i + j) / 2)) = decide (cmpR l (St.gd d (p - (i + j) / 2)) (St.gd d ((i + j) / 2)) < 0) := rfl
      have i1 := ih ((i + j) / 2 + 1) j (by omega) (by omega) (by omega) h3
      have i2 := ih i ((i + j) / 2) (by omega) h1 (by omega) (by omega) hy
      have u1 := hf.up (k := (i + j) / 2) (by omega)
      have u2 := hf.down (k := (i + j) / 2) (by omega)
      generalize cmpR l (St.gd d (p - (i + j) / 2)) (St.gd d ((i + j) / 2)) = o at c29 hsm hcm
      refine RRun.inLoop ?_
      rcases hsm with rfl | rfl | rfl
      · repeat' (first | refine S.nilK ?_ | (refine S.op rfl ?_; first | refine S.addNN rfl rfl (by omega) ?_ | refine S.subNN rfl rfl (by omega) (by omega) ?_ | refine S.ixN rfl rfl (by omega) ?_ | refine S.convU (by omega) rfl ?_ | refine S.half rfl ?_ | refine S.convI (by omega) rfl ?_ | refine ldR (by decide) rfl hX ?_ | refine ldR (by decide) rfl hY ?_ | refine R.callAQ (by decide) rfl hp29 rfl c29 ?_ | refine R.mv rfl ?_ | refine R.not rfl ?_ | ((first | refine S.lss rfl rfl ?_ ?_) <;> intro hlt <;> try (exfalso; omega))) | refine S.seq ?_ | refine S.region ?_ | refine S.condT rfl ?_ | refine S.condF rfl ?_ | refine RRun.skip ?_ | refine RRun.block ?_ | refine RRun.inBlock ?_)
        exact S.keep [0, 1, 2, 3, 4, 18, 19, 20, 21, 22] rfl (i2 (u2 (by rw [hcm]; decide)))
      · repeat' (first | refine S.nilK ?_ | (refine S.op rfl ?_; first | refine S.addNN (n := 1) rfl rfl (by omega) ?_ | refine S.addNN rfl rfl (by omega) ?_ | refine S.subNN rfl rfl (by omega) (by omega) ?_ | refine S.ixN rfl rfl (by omega) ?_ | refine S.convU (by omega) rfl ?_ | refine S.half rfl ?_ | refine S.convI (by omega) rfl ?_ | refine ldR (by decide) rfl hX ?_ | refine ldR (by decide) rfl hY ?_ | refine R.callAQ (by decide) rfl hp29 rfl c29 ?_ | refine R.mv rfl ?_ | refine R.not rfl ?_ | ((first | refine S.lss rfl rfl ?_ ?_) <;> intro hlt <;> try (exfalso; omega))) | refine S.seq ?_ | refine S.region ?_ | refine S.condT rfl ?_ | refine RRun.skip ?_ | refine RRun.block ?_ | refine RRun.inBlock ?_)
        exact S.keep [0, 1, 2, 3, 4, 18, 19, 20, 21, 22] rfl (i1 (u1 (by rw [hcm]; decide)) hno)
      · repeat' (first | refine S.nilK ?_ | (refine S.op rfl ?_; first | refine S.addNN (n := 1) rfl rfl (by omega) ?_ | refine S.addNN rfl rfl (by omega) ?_ | refine S.subNN rfl rfl (by omega) (by omega) ?_ | refine S.ixN rfl rfl (by omega) ?_ | refine S.convU (by omega) rfl ?_ | refine S.half rfl ?_ | refine S.convI (by omega) rfl ?_ | refine ldR (by decide) rfl hX ?_ | refine ldR (by decide) rfl hY ?_ | refine R.callAQ (by decide) rfl hp29 rfl c29 ?_ | refine R.mv rfl ?_ | refine R.not rfl ?_ | ((first | refine S.lss rfl rfl ?_ ?_) <;> intro hlt <;> try (exfalso; omega))) | refine S.seq ?_ | refine S.region ?_ | refine S.condT rfl ?_ | refine RRun.skip ?_ | refine RRun.block ?_ | refine RRun.inBlock ?_)
        exact S.keep [0, 1, 2, 3, 4, 18, 19, 20, 21, 22] rfl (i1 (u1 (by rw [hcm]; decide)) hno)
    · exact fin i h1 h3 hy hno
theorem sy_up (n cap i : Nat) (x : Row) (Y : List Row) (sp : List AV) (h : AHeap) {q : Nat} (hn : n ≤ 1000000) (ks : List RT) (Q : AV → AHeap → Prop) : ∀ (U W : List Row) (k : Nat), k = W.length → i = k + U.length + 1 → W.length + U.length + Y.length + 1 = n →
    RRun Try.prog Try.f51 220 ks (Env.get []) (HR h q (W ++ U ++ x :: Y) sp) Q →
    RRun Try.prog Try.f51 220 (.inLoop r51l1 :: .inBlock 2 :: ks) (Env.get [(0, slAt q 0 n cap), (10, i64 i), (13, i64 k)]) (HR h q (W ++ x :: U ++ Y) sp) Q
  | [], W, k, hk, hi, hlen, H => by
    simp only [List.length_nil] at hi
    rw [List.append_nil] at H
    have e : W ++ [x] ++ Y = W ++ x :: Y := by simp
    rw [e]
    refine RRun.inLoop ?_
    repeat' (first | refine S.nilK ?_ | (refine S.op rfl ?_; first | refine S.subNN (n := 1) rfl rfl (by omega) (by omega) ?_ | refine R.mv rfl ?_ | ((first | refine S.lss rfl rfl ?_ ?_) <;> intro hlt <;> try (exfalso; omega))) | refine S.seq ?_ | refine S.region ?_ | refine S.condF rfl ?_ | refine RRun.exit rfl ?_)
    exact S.keep [] rfl H
  | u :: U, W, k, hk, hi, hlen, H => by
    simp only [List.length_cons] at hi hlen
    have hX : (W ++ x :: u :: U ++ Y)[k + 1]? = some u := by
      have e : W ++ x :: u :: U ++ Y = (W ++ [x]) ++ u :: (U ++ Y) := by simp
      have e2 : k + 1 = (W ++ [x]).length := by simp [hk]
      rw [e, e2]; exact get_mid _ _ _
    have hY : (W ++ x :: u :: U ++ Y)[k]? = some x := by
      have e : W ++ x :: u :: U ++ Y = W ++ x :: (u :: U ++ Y) := by simp
      rw [e, hk]; exact get_mid _ _ _
    have e3 : ((W ++ x :: u :: U ++ Y).set k u).set (k + 1) x = (W ++ [u]) ++ x :: U ++ Y := by
      have e : W ++ x :: u :: U ++ Y = W ++ x :: (u :: U ++ Y) := by simp
      rw [e, hk, set_mid]
      have e : W ++ u :: (u :: U ++ Y) = (W ++ [u]) ++ u :: (U ++ Y) := by simp
      have e2 : W.length + 1 = (W ++ [u]).length := by simp
      rw [e, e2, set_mid]; simp
    have hih := sy_up n cap i x Y sp h hn ks Q U (W ++ [u]) (k + 1) (by simp [hk]) (by omega) (by simp; omega) (by
      have e : W ++ [u] ++ U ++ x :: Y = W ++ u :: U ++ x :: Y := by simp
      rw [e]; exact H)
    rw [← e3] at hih
    have hlen2 : (W ++ x :: u :: U ++ Y).length = n := by simp; omega
    generalize W ++ x :: u :: U ++ Y = d at *
    refine RRun.inLoop ?_
    repeat' (first | (refine S.op0 rfl (stR rfl rfl rfl (by (try simp only [List.length_set]); omega) ?_)) | refine S.nilK ?_ | (refine S.op rfl ?_; first | refine S.addNN (n := 1) rfl rfl (by omega) ?_ | refine S.subNN (n := 1) rfl rfl (by omega) (by omega) ?_ | refine S.ixN rfl rfl (by omega) ?_ | refine ldR (by decide) rfl hX ?_ | refine ldR (by decide) rfl hY ?_ | refine R.mv rfl ?_ | ((first | refine S.lss rfl rfl ?_ ?_) <;> intro hlt <;> try (exfalso; omega))) | refine S.seq ?_ | refine S.region ?_ | refine S.condT rfl ?_ | refine RRun.skip ?_ | refine RRun.block ?_ | refine RRun.inBlock ?_)
    exact S.keep [0, 10, 13] rfl hih
theorem sy_down (n cap i : Nat) (y : Row) (W : List Row) (sp : List AV) (h : AHeap) {q : Nat} (hn : n ≤ 1000000) (hi : i = W.length) (ks : List RT) (Q : AV → AHeap → Prop) : ∀ (t : Nat) (U Y : List Row) (k : Nat), U.length = t → k = i + t → W.length + U.length + Y.length + 1 = n →
    RRun Try.prog Try.f51 220 ks (Env.get []) (HR h q (W ++ y :: U ++ Y) sp) Q →
    RRun Try.prog Try.f51 220 (.inLoop r51l3 :: .inBlock 6 :: ks) (Env.get [(0, slAt q 0 n cap), (14, i64 i), (17, i64 k)]) (HR h q (W ++ U ++ y :: Y) sp) Q := by
  intro t
  induction t with
  | zero =>
    intro U Y k hU hk hlen H
    have h0 := List.eq_nil_of_length_eq_zero hU
    subst h0
    have e : W ++ [] ++ y :: Y = W ++ [y] ++ Y := by simp
    rw [e]
    refine RRun.inLoop ?_
    repeat' (first | refine S.nilK ?_ | (refine S.op rfl ?_; first | refine R.mv rfl ?_ | ((first | refine S.gtr rfl rfl ?_ ?_) <;> intro hlt <;> try (exfalso; omega))) | refine S.seq ?_ | refine S.region ?_ | refine S.condF rfl ?_ | refine RRun.exit rfl ?_)
    exact S.keep [] rfl H
  | succ t ih =>
    intro U Y k hU hk hlen H
    rcases List.eq_nil_or_concat U with h0 | ⟨U, u, rfl⟩
    · rw [h0] at hU; simp at hU
    · rw [List.concat_eq_append] at *
      have hU' : U.length = t := by simpa using hU
      simp only [List.length_append, List.length_singleton] at hlen
      have hX : (W ++ (U ++ [u]) ++ y :: Y)[k]? = some y := by
        have e2 : k = (W ++ (U ++ [u])).length := by simp; omega
        rw [e2]; exact get_mid _ _ _
      have hY : (W ++ (U ++ [u]) ++ y :: Y)[k - 1]? = some u := by
        have e : W ++ (U ++ [u]) ++ y :: Y = (W ++ U) ++ u :: (y :: Y) := by simp
        have e2 : k - 1 = (W ++ U).length := by simp; omega
        rw [e, e2]; exact get_mid _ _ _
      have e3 : ((W ++ (U ++ [u]) ++ y :: Y).set k u).set (k - 1) y = W ++ U ++ y :: u :: Y := by
        have e2 : k = (W ++ (U ++ [u])).length := by simp; omega
        have e2' : k - 1 = (W ++ U).length := by simp; omega
        rw [e2', e2, set_mid]
        have e : W ++ (U ++ [u]) ++ u :: Y = (W ++ U) ++ u :: (u :: Y) := by simp
        rw [e, set_mid]
      have hih := ih U (u :: Y) (k - 1) hU' (by omega) (by simp; omega) (by
        have e : W ++ y :: U ++ u :: Y = W ++ y :: (U ++ [u]) ++ Y := by simp
        rw [e]; exact H)
      rw [← e3] at hih
      have hlen2 : (W ++ (U ++ [u]) ++ y :: Y).length = n := by simp; omega
      generalize W ++ (U ++ [u]) ++ y :: Y = d at *
      refine RRun.inLoop ?_
      repeat' (first | (refine S.op0 rfl (stR rfl rfl rfl (by (try simp only [List.length_set]); omega) ?_)) | refine S.nilK ?_ | (refine S.op rfl ?_; first | refine S.subNN (n := 1) rfl rfl (by omega) (by omega) ?_ | refine S.ixN rfl rfl (by omega) ?_ | refine ldR (by decide) rfl hX ?_ | refine ldR (by decide) rfl hY ?_ | refine R.mv rfl ?_ | ((first | refine S.gtr rfl rfl ?_ ?_) <;> intro hlt <;> try (exfalso; omega))) | refine S.seq ?_ | refine S.region ?_ | refine S.condT rfl ?_ | refine RRun.skip ?_ | refine RRun.block ?_ | refine RRun.inBlock ?_)
      exact S.keep [0, 14, 17] rfl hih
end Go.Proofs.Ythadifboeggnpaa

namespace Go.Proofs.Ythadifboeggnpaa
open Go.Av
def r51e : RCode :=
  (.seq (.region [
    ⟨(some 175), none, .act, .mv (.tmp 19)⟩,
    ⟨(some 176), none, .act, .mv (.tmp 20)⟩,
    ⟨(some 177), none, .act, .bin .sub (.tmp 175) (.tmp 176)⟩,
    ⟨(some 24), none, .act, .mv (.tmp 177)⟩])
  (.seq (.seq (.region [
    ⟨(some 178), none, .act, .mv (.tmp 20)⟩,
    ⟨(some 179), none, .act, .mv (.tmp 2)⟩,
    ⟨(some 180), none, .act, .bin .lss (.tmp 178) (.tmp 179)⟩,
    ⟨(some 181), none, .act, .mv (.tmp 180)⟩,
    ⟨(some 182), (some (181, true)), .act, .mv (.tmp 2)⟩,
    ⟨(some 183), (some (181, true)), .act, .mv (.tmp 24)⟩,
    ⟨(some 184), (some (181, true)), .act, .bin .lss (.tmp 182) (.tmp 183)⟩,
    ⟨(some 185), none, .act, .pick (.tmp 181) (.tmp 184) (.const (.bool false))⟩])
  (.cond (.tmp 185)
   (.region [
     ⟨(some 186), none, .act, .mv (.tmp 0)⟩,
     ⟨(some 187), none, .act, .mv (.tmp 20)⟩,
     ⟨(some 188), none, .act, .mv (.tmp 2)⟩,
     ⟨(some 189), none, .act, .mv (.tmp 24)⟩,
     ⟨(some 190), none, .act, .mv (.tmp 4)⟩,
     ⟨(some 191), none, .act, .call 61 [(.tmp 186), (.tmp 187), (.tmp 188), (.tmp 189), (.tmp 190)]⟩])
   .skip))
  (.seq (.seq (.region [
    ⟨(some 192), none, .act, .mv (.tmp 1)⟩,
    ⟨(some 193), none, .act, .mv (.tmp 20)⟩,
    ⟨(some 194), none, .act, .bin .lss (.tmp 192) (.tmp 193)⟩,
    ⟨(some 195), none, .act, .mv (.tmp 194)⟩,
    ⟨(some 196), (some (195, true)), .act, .mv (.tmp 20)⟩,
    ⟨(some 197), (some (195, true)), .act, .mv (.tmp 18)⟩,
    ⟨(some 198), (some (195, true)), .act, .bin .lss (.tmp 196) (.tmp 197)⟩,
    ⟨(some 199), none, .act, .pick (.tmp 195) (.tmp 198) (.const (.bool false))⟩])
  (.cond (.tmp 199)
   (.region [
     ⟨(some 200), none, .act, .mv (.tmp 0)⟩,
     ⟨(some 201), none, .act, .mv (.tmp 1)⟩,
     ⟨(some 202), none, .act, .mv (.tmp 20)⟩,
     ⟨(some 203), none, .act, .mv (.tmp 18)⟩,
     ⟨(some 204), none, .act, .mv (.tmp 4)⟩,
     ⟨(some 205), none, .act, .call 51 [(.tmp 200), (.tmp 201), (.tmp 202), (.tmp 203), (.tmp 204)]⟩])
   .skip))
  (.seq (.region [
    ⟨(some 206), none, .act, .mv (.tmp 18)⟩,
    ⟨(some 207), none, .act, .mv (.tmp 24)⟩,
    ⟨(some 208), none, .act, .bin .lss (.tmp 206) (.tmp 207)⟩,
    ⟨(some 209), none, .act, .mv (.tmp 208)⟩,
    ⟨(some 210), (some (209, true)), .act, .mv (.tmp 24)⟩,
    ⟨(some 211), (some (209, true)), .act, .mv (.tmp 3)⟩,
    ⟨(some 212), (some (209, true)), .act, .bin .lss (.tmp 210) (.tmp 211)⟩,
    ⟨(some 213), none, .act, .pick (.tmp 209) (.tmp 212) (.const (.bool false))⟩])
  (.cond (.tmp 213)
   (.region [
     ⟨(some 214), none, .act, .mv (.tmp 0)⟩,
     ⟨(some 215), none, .act, .mv (.tmp 18)⟩,
     ⟨(some 216), none, .act, .mv (.tmp 24)⟩,
     ⟨(some 217), none, .act, .mv (.tmp 3)⟩,
     ⟨(some 218), none, .act, .mv (.tmp 4)⟩,
     ⟨(some 219), none, .act, .call 51 [(.tmp 214), (.tmp 215), (.tmp 216), (.tmp 217), (.tmp 218)]⟩])
   .skip)))))
def r51f : RCode :=
  (.seq (.region [
    ⟨(some 192), none, .act, .mv (.tmp 1)⟩,
    ⟨(some 193), none, .act, .mv (.tmp 20)⟩,
    ⟨(some 194), none, .act, .bin .lss (.tmp 192) (.tmp 193)⟩,
    ⟨(some 195), none, .act, .mv (.tmp 194)⟩,
    ⟨(some 196), (some (195, true)), .act, .mv (.tmp 20)⟩,
    ⟨(some 197), (some (195, true)), .act, .mv (.tmp 18)⟩,
    ⟨(some 198), (some (195, true)), .act, .bin .lss (.tmp 196) (.tmp 197)⟩,
    ⟨(some 199), none, .act, .pick (.tmp 195) (.tmp 198) (.const (.bool false))⟩])
  (.cond (.tmp 199)
   (.region [
     ⟨(some 200), none, .act, .mv (.tmp 0)⟩,
     ⟨(some 201), none, .act, .mv (.tmp 1)⟩,
     ⟨(some 202), none, .act, .mv (.tmp 20)⟩,
     ⟨(some 203), none, .act, .mv (.tmp 18)⟩,
     ⟨(some 204), none, .act, .mv (.tmp 4)⟩,
     ⟨(some 205), none, .act, .call 51 [(.tmp 200), (.tmp 201), (.tmp 202), (.tmp 203), (.tmp 204)]⟩])
   .skip))
def r51g : RCode :=
  (.seq (.region [
    ⟨(some 206), none, .act, .mv (.tmp 18)⟩,
    ⟨(some 207), none, .act, .mv (.tmp 24)⟩,
    ⟨(some 208), none, .act, .bin .lss (.tmp 206) (.tmp 207)⟩,
    ⟨(some 209), none, .act, .mv (.tmp 208)⟩,
    ⟨(some 210), (some (209, true)), .act, .mv (.tmp 24)⟩,
    ⟨(some 211), (some (209, true)), .act, .mv (.tmp 3)⟩,
    ⟨(some 212), (some (209, true)), .act, .bin .lss (.tmp 210) (.tmp 211)⟩,
    ⟨(some 213), none, .act, .pick (.tmp 209) (.tmp 212) (.const (.bool false))⟩])
  (.cond (.tmp 213)
   (.region [
     ⟨(some 214), none, .act, .mv (.tmp 0)⟩,
     ⟨(some 215), none, .act, .mv (.tmp 18)⟩,
     ⟨(some 216), none, .act, .mv (.tmp 24)⟩,
     ⟨(some 217), none, .act, .mv (.tmp 3)⟩,
     ⟨(some 218), none, .act, .mv (.tmp 4)⟩,
     ⟨(some 219), none, .act, .call 51 [(.tmp 214), (.tmp 215), (.tmp 216), (.tmp 217), (.tmp 218)]⟩])
   .skip))
theorem sy_one {l : List (Int × Bool)} {h : AHeap} {pb q : Nat} (B : Box l h pb q) (n cap : Nat) (x : Row) (P Bs Z : List Row) (sp : List AV) (hn : n ≤ 1000000) (hB : St.Sorted (ltR l) Bs) (a m b : Nat) (ha : a = P.length) (hm : m = a + 1) (hb : b = m + Bs.length) (hlen : P.length + 1 + Bs.length + Z.length = n) :
    ACalls Try.prog 51 [slAt q 0 n cap, i64 a, i64 m, i64 b, cmpA pb] (HR h q (P ++ [x] ++ Bs ++ Z) sp) (fun _ h' => h' = HR h q (P ++ St.merge (ltR l) [x] Bs ++ Z) sp) := by
  obtain ⟨c', hc1, hc2⟩ := res51
  refine ACalls.enter Try.func51 hc1 Try.ntmps51 hc2 (Nat.le_of_ble_eq_true rfl) rfl ?_
  have hx : St.gd (P ++ [x] ++ Bs ++ Z) a = x := by
    have e : P ++ [x] ++ Bs ++ Z = P ++ x :: (Bs ++ Z) := by simp
    rw [e, ha]; exact St.gd_mid _ _ _
  have hfall := St.one_falls (ltR_sw l) (L := P ++ [x]) (Z := Z) hB x
  have hml : (P ++ [x]).length = m := by simp; omega
  rw [hml, ← hb] at hfall
  have e1 : m - a = 1 := by omega
  repeat' (first | refine S.nilK ?_ | (refine S.op rfl ?_; first | refine S.subNN rfl rfl (by omega) (by omega) ?_ | refine R.mv rfl ?_ | ((first | refine S.eqInt rfl rfl ?_ ?_) <;> intro hlt <;> try (exfalso; omega))) | refine S.seq ?_ | refine S.region ?_ | refine S.condT rfl ?_ | refine RRun.block ?_)
  refine RRun.loopIn (S.keep [0, 1, 4, 10, 11] rfl (sy_find0 B n cap a m b (P ++ [x] ++ Bs ++ Z) sp hn (by simp; omega) (by omega) (by omega) (by rw [hx]; exact hfall) _ _ (fun r hr => ?_) (b - m) m b (Nat.le_refl _) (Nat.le_refl _) (by omega) (Nat.le_refl _) (fun k g1 g2 => by omega) (fun k g1 g2 => by omega)))
  rw [hx, hb, ← hml] at hr
  obtain ⟨B1, B2, rfl, l1, l2, p1, p2⟩ := St.Found.parts (p := fun z => ltR l z x) hr
  have hr1 := hr.ge
  have hr2 := hr.le
  rw [hml] at l1 hr1
  simp only [List.length_append] at hlen hb
  have e2 : St.merge (ltR l) [x] (B1 ++ B2) = B1 ++ x :: B2 := St.merge_one p1 p2
  have e3 : P ++ [x] ++ (B1 ++ B2) ++ Z = P ++ x :: B1 ++ (B2 ++ Z) := by simp
  have e4 : P ++ (B1 ++ x :: B2) ++ Z = P ++ B1 ++ x :: (B2 ++ Z) := by simp
  rw [e2, e3, e4]
  repeat' (first | refine S.nilK ?_ | (refine S.op rfl ?_; first | refine R.mv rfl ?_) | refine S.seq ?_ | refine S.region ?_ | refine RRun.block ?_)
  refine RRun.loopIn (S.keep [0, 10, 13] rfl (sy_up n cap r x (B2 ++ Z) sp h hn _ _ B1 P a ha (by omega) (by simp; omega) ?_))
  repeat' (fail)
  apply S.ret rr51
  case hx => repeat (first | exact ResAt.nil)
  rfl
theorem sy_more {l : List (Int × Bool)} {h : AHeap} {pb q : Nat} (B : Box l h pb q) (n cap : Nat) (y : Row) (P A Z : List Row) (sp : List AV) (hn : n ≤ 1000000) (hA : St.Sorted (ltR l) A) (a m b : Nat) (ha : a = P.length) (hA2 : A.length ≠ 1) (hm : m = a + A.length) (hb : b = m + 1) (hlen : P.length + 1 + A.length + Z.length = n) :
    ACalls Try.prog 51 [slAt q 0 n cap, i64 a, i64 m, i64 b, cmpA pb] (HR h q (P ++ A ++ [y] ++ Z) sp) (fun _ h' => h' = HR h q (P ++ St.merge (ltR l) A [y] ++ Z) sp) := by
  obtain ⟨c', hc1, hc2⟩ := res51
  refine ACalls.enter Try.func51 hc1 Try.ntmps51 hc2 (Nat.le_of_ble_eq_true rfl) rfl ?_
  have hy : St.gd (P ++ A ++ [y] ++ Z) m = y := by
    have e : P ++ A ++ [y] ++ Z = (P ++ A) ++ y :: Z := by simp
    have e2 : m = (P ++ A).length := by simp; omega
    rw [e, e2]; exact St.gd_mid _ _ _
  have hfall := St.more_falls (ltR_sw l) (L := P) (Z := [y] ++ Z) hA y
  rw [← List.append_assoc, ← ha, ← hm] at hfall
  have e1 : m - a ≠ 1 := by omega
  have e1' : b - m = 1 := by omega
  repeat' (first | refine S.nilK ?_ | (refine S.op rfl ?_; first | refine S.subNN rfl rfl (by omega) (by omega) ?_ | refine R.mv rfl ?_ | ((first | refine S.eqInt rfl rfl ?_ ?_) <;> intro hlt <;> try (exfalso; omega))) | refine S.seq ?_ | refine S.region ?_ | refine S.condT rfl ?_ | refine S.condF rfl ?_ | refine RRun.skip ?_ | refine RRun.block ?_)
  refine RRun.loopIn (S.keep [0, 2, 4, 14, 15] rfl (sy_find2 B n cap a m (P ++ A ++ [y] ++ Z) sp hn (by simp; omega) (by omega) (by rw [hy]; exact hfall) _ _ (fun r hr => ?_) (m - a) a m (Nat.le_refl _) (Nat.le_refl _) (by omega) (Nat.le_refl _) (fun k g1 g2 => by omega) (fun k g1 g2 => by omega)))
  rw [hy, hm, ha, List.append_assoc (P ++ A)] at hr
  obtain ⟨A1, A2, rfl, l1, l2, p1, p2⟩ := St.Found.parts (p := fun z => !ltR l y z) hr
  have hr1 := hr.ge
  have hr2 := hr.le
  simp only [List.length_append] at hlen hm l2
  have e2 : St.merge (ltR l) (A1 ++ A2) [y] = A1 ++ y :: A2 := St.merge_more (fun z hz => by have := p1 z hz; simpa using this) (fun z hz => by have := p2 z hz; simpa using this)
  have e3 : P ++ (A1 ++ A2) ++ [y] ++ Z = P ++ A1 ++ A2 ++ y :: Z := by simp
  have e4 : P ++ (A1 ++ y :: A2) ++ Z = P ++ A1 ++ y :: A2 ++ Z := by simp
  rw [e2, e3, e4]
  repeat' (first | refine S.nilK ?_ | (refine S.op rfl ?_; first | refine R.mv rfl ?_) | refine S.seq ?_ | refine S.region ?_ | refine RRun.block ?_)
  refine RRun.loopIn (S.keep [0, 14, 17] rfl (sy_down n cap r y (P ++ A1) sp h hn (by simp; omega) _ _ A2.length A2 Z m rfl (by omega) (by simp; omega) ?_))
  repeat' (fail)
  apply S.ret rr51
  case hx => repeat (first | exact ResAt.nil)
  rfl
theorem sy_k3 {q pb n cap mid e b : Nat} {l : List (Int × Bool)} (W A2 B2 Z : List Row) (sp : List AV) (h : AHeap) (hn : n ≤ 1000000) (hm : mid ≤ e) (he : e = mid + A2.length) (hb : b = e + B2.length) (hbn : b ≤ n)
    (c51 : A2 ≠ [] → B2 ≠ [] → ACalls Try.prog 51 [slAt q 0 n cap, i64 mid, i64 e, i64 b, cmpA pb] (HR h q (W ++ A2 ++ B2 ++ Z) sp) (fun _ h' => h' = HR h q (W ++ St.merge (ltR l) A2 B2 ++ Z) sp)) :
    RRun Try.prog Try.f51 220 [.code r51g] (Env.get [(0, slAt q 0 n cap), (3, i64 b), (4, cmpA pb), (18, i64 mid), (24, i64 e)]) (HR h q (W ++ A2 ++ B2 ++ Z) sp) (fun _ h' => h' = HR h q (W ++ St.merge (ltR l) A2 B2 ++ Z) sp) := by
  by_cases hA2 : A2 = []
  · subst hA2
    rw [St.merge_nil, List.append_nil]
    simp only [List.length_nil] at he
    have hlt : ¬ mid < e := by omega
    repeat' (first | refine S.nilK ?_ | (refine S.op rfl ?_; first | refine R.mv rfl ?_ | refine R.pickF rfl rfl ?_ | ((first | refine S.lss rfl rfl ?_ ?_) <;> intro hlt <;> try (exfalso; omega))) | refine S.skip rfl ?_ | refine S.seq ?_ | refine S.region ?_ | refine S.condF rfl ?_ | refine RRun.skip ?_)
    apply S.done rr51
    case hx => repeat (first | exact ResAt.nil)
    rfl
  by_cases hB2 : B2 = []
  · subst hB2
    rw [St.merge_nil', List.append_nil]
    simp only [List.length_nil] at hb
    have hA2l := List.length_pos_iff.2 hA2
    repeat' (first | refine S.nilK ?_ | (refine S.op rfl ?_; first | refine R.mv rfl ?_ | refine R.pickT rfl rfl ?_ | ((first | refine S.lss rfl rfl ?_ ?_) <;> intro hlt <;> try (exfalso; omega))) | refine S.seq ?_ | refine S.region ?_ | refine S.condF rfl ?_ | refine RRun.skip ?_)
    apply S.done rr51
    case hx => repeat (first | exact ResAt.nil)
    rfl
  · have hA2l := List.length_pos_iff.2 hA2
    have hB2l := List.length_pos_iff.2 hB2
    have c51 := c51 hA2 hB2
    repeat' (first | refine S.nilK ?_ | (refine S.op rfl ?_; first | refine callU rfl rfl c51 (fun _ => ?_) | refine R.mv rfl ?_ | refine R.pickT rfl rfl ?_ | ((first | refine S.lss rfl rfl ?_ ?_) <;> intro hlt <;> try (exfalso; omega))) | refine S.seq ?_ | refine S.region ?_ | refine S.condT rfl ?_)
    apply S.done rr51
    case hx => repeat (first | exact ResAt.nil)
    rfl
theorem sy_k2 {q pb n cap a r mid e b : Nat} {l : List (Int × Bool)} (P A1 B1 T : List Row) (sp : List AV) (h : AHeap) (hn : n ≤ 1000000) (hr : r = a + A1.length) (hb : mid = r + B1.length) (hbn : mid ≤ n) (Q : AV → AHeap → Prop)
    (c51 : A1 ≠ [] → B1 ≠ [] → ACalls Try.prog 51 [slAt q 0 n cap, i64 a, i64 r, i64 mid, cmpA pb] (HR h q (P ++ A1 ++ B1 ++ T) sp) (fun _ h' => h' = HR h q (P ++ St.merge (ltR l) A1 B1 ++ T) sp))
    (k3 : RRun Try.prog Try.f51 220 [.code r51g] (Env.get [(0, slAt q 0 n cap), (3, i64 b), (4, cmpA pb), (18, i64 mid), (24, i64 e)]) (HR h q (P ++ St.merge (ltR l) A1 B1 ++ T) sp) Q) :
    RRun Try.prog Try.f51 220 [.code r51f, .code r51g] (Env.get [(0, slAt q 0 n cap), (1, i64 a), (3, i64 b), (4, cmpA pb), (18, i64 mid), (20, i64 r), (24, i64 e)]) (HR h q (P ++ A1 ++ B1 ++ T) sp) Q := by
  by_cases hA1 : A1 = []
  · subst hA1
    rw [St.merge_nil] at k3
    rw [List.append_nil]
    simp only [List.length_nil] at hr
    repeat' (first | ((show RRun _ _ _ [.code r51g] _ _ _; exact S.keep [0, 3, 4, 18, 24] rfl k3)) | refine S.nilK ?_ | (refine S.op rfl ?_; first | refine R.mv rfl ?_ | refine R.pickF rfl rfl ?_ | ((first | refine S.lss rfl rfl ?_ ?_) <;> intro hlt <;> try (exfalso; omega))) | refine S.skip rfl ?_ | refine S.seq ?_ | refine S.region ?_ | refine S.condF rfl ?_ | refine RRun.skip ?_)
  by_cases hB1 : B1 = []
  · subst hB1
    rw [St.merge_nil'] at k3
    rw [List.append_nil]
    simp only [List.length_nil] at hb
    have hA1l := List.length_pos_iff.2 hA1
    repeat' (first | ((show RRun _ _ _ [.code r51g] _ _ _; exact S.keep [0, 3, 4, 18, 24] rfl k3)) | refine S.nilK ?_ | (refine S.op rfl ?_; first | refine R.mv rfl ?_ | refine R.pickT rfl rfl ?_ | ((first | refine S.lss rfl rfl ?_ ?_) <;> intro hlt <;> try (exfalso; omega))) | refine S.seq ?_ | refine S.region ?_ | refine S.condF rfl ?_ | refine RRun.skip ?_)
  · have hA1l := List.length_pos_iff.2 hA1
    have hB1l := List.length_pos_iff.2 hB1
    have c51 := c51 hA1 hB1
    repeat' (first | ((show RRun _ _ _ [.code r51g] _ _ _; exact S.keep [0, 3, 4, 18, 24] rfl k3)) | refine S.nilK ?_ | (refine S.op rfl ?_; first | refine callU rfl rfl c51 (fun _ => ?_) | refine R.mv rfl ?_ | refine R.pickT rfl rfl ?_ | ((first | refine S.lss rfl rfl ?_ ?_) <;> intro hlt <;> try (exfalso; omega))) | refine S.seq ?_ | refine S.region ?_ | refine S.condT rfl ?_)
theorem sy_k1 {q pb n cap a r m mid b : Nat} (P A1 A2 B1 T : List Row) (sp : List AV) (h : AHeap) (hn : n ≤ 1000000) (hP : a = P.length) (hr : r = a + A1.length) (hm : m = r + A2.length) (hb : mid = r + B1.length) (hlen : P.length + A1.length + A2.length + B1.length + T.length = n) (Q : AV → AHeap → Prop)
    (k2 : RRun Try.prog Try.f51 220 [.code r51f, .code r51g] (Env.get [(0, slAt q 0 n cap), (1, i64 a), (3, i64 b), (4, cmpA pb), (18, i64 mid), (20, i64 r), (24, i64 (mid + m - r : Nat))]) (HR h q (P ++ A1 ++ B1 ++ A2 ++ T) sp) Q) :
    RRun Try.prog Try.f51 220 [.code r51e] (Env.get [(0, slAt q 0 n cap), (1, i64 a), (2, i64 m), (3, i64 b), (4, cmpA pb), (18, i64 mid), (19, i64 (mid + m : Nat)), (20, i64 r)]) (HR h q (P ++ A1 ++ A2 ++ B1 ++ T) sp) Q := by
  by_cases hA2 : A2 = []
  · subst hA2
    rw [List.append_nil] at k2
    rw [List.append_nil]
    simp only [List.length_nil] at hm
    repeat' (first | ((show RRun _ _ _ [.code r51f, .code r51g] _ _ _; exact S.keep [0, 1, 3, 4, 18, 20, 24] rfl k2)) | refine S.nilK ?_ | (refine S.op rfl ?_; first | refine S.subNN rfl rfl (by omega) (by omega) ?_ | refine R.mv rfl ?_ | refine R.pickF rfl rfl ?_ | ((first | refine S.lss rfl rfl ?_ ?_) <;> intro hlt <;> try (exfalso; omega))) | refine S.skip rfl ?_ | refine S.seq ?_ | refine S.region ?_ | refine S.condF rfl ?_ | refine RRun.skip ?_)
  by_cases hB1 : B1 = []
  · subst hB1
    rw [List.append_nil] at k2
    rw [List.append_nil]
    simp only [List.length_nil] at hb
    have hA2l := List.length_pos_iff.2 hA2
    repeat' (first | ((show RRun _ _ _ [.code r51f, .code r51g] _ _ _; exact S.keep [0, 1, 3, 4, 18, 20, 24] rfl k2)) | refine S.nilK ?_ | (refine S.op rfl ?_; first | refine S.subNN rfl rfl (by omega) (by omega) ?_ | refine R.mv rfl ?_ | refine R.pickT rfl rfl ?_ | ((first | refine S.lss rfl rfl ?_ ?_) <;> intro hlt <;> try (exfalso; omega))) | refine S.seq ?_ | refine S.region ?_ | refine S.condF rfl ?_ | refine RRun.skip ?_)
  · have hA2l := List.length_pos_iff.2 hA2
    have hB1l := List.length_pos_iff.2 hB1
    have c61 := rotate_spec q n cap sp h hn (P ++ A1) A2 B1 T hA2 hB1 r m (mid + m - r) (by simp; omega) (by simp; omega) (by simp; omega) (by simp; omega) (cmpA pb)
    repeat' (first | ((show RRun _ _ _ [.code r51f, .code r51g] _ _ _; exact S.keep [0, 1, 3, 4, 18, 20, 24] rfl k2)) | refine S.nilK ?_ | (refine S.op rfl ?_; first | refine S.subNN rfl rfl (by omega) (by omega) ?_ | refine callU rfl rfl c61 (fun _ => ?_) | refine R.mv rfl ?_ | refine R.pickT rfl rfl ?_ | ((first | refine S.lss rfl rfl ?_ ?_) <;> intro hlt <;> try (exfalso; omega))) | refine S.seq ?_ | refine S.region ?_ | refine S.condT rfl ?_)
theorem sy_head {l : List (Int × Bool)} {h : AHeap} {pb q : Nat} (B : Box l h pb q) (n cap a m b mid : Nat) (d : List Row) (sp : List AV) (hn : n ≤ 1000000) (h1 : a + 1 < m) (h2 : m + 1 < b) (hbn : b ≤ n) (hd : d.length = n) (hmid : mid = (a + b) / 2) (Q : AV → AHeap → Prop)
    (hf : ∀ lo hi, ((m > mid ∧ lo = mid + m - b ∧ hi = mid) ∨ (m ≤ mid ∧ lo = a ∧ hi = m)) → St.Falls (fun k => !ltR l (St.gd d (mid + m - 1 - k)) (St.gd d k)) lo hi)
    (H : ∀ r lo hi, ((m > mid ∧ lo = mid + m - b ∧ hi = mid) ∨ (m ≤ mid ∧ lo = a ∧ hi = m)) → St.Found (fun k => !ltR l (St.gd d (mid + m - 1 - k)) (St.gd d k)) lo hi r →
        RRun Try.prog Try.f51 220 [.code r51e] (Env.get [(0, slAt q 0 n cap), (1, i64 a), (2, i64 m), (3, i64 b), (4, cmpA pb), (18, i64 mid), (19, i64 (mid + m : Nat)), (20, i64 r)]) (HR h q d sp) Q) :
    RRun Try.prog Try.f51 220 [.code r51] (Env.get [(0, slAt q 0 n cap), (1, i64 a), (2, i64 m), (3, i64 b), (4, cmpA pb)]) (HR h q d sp) Q := by
  have g1 : m - a ≠ 1 := by omega
  have g2 : b - m ≠ 1 := by omega
  rcases Nat.lt_or_ge mid m with hmm | hmm
  · have f4 := sy_find4 B n cap a m b mid (mid + m) (mid + m - 1) (mid + m - b) mid d sp hn hd (by omega) (by omega) (by omega) (hf _ _ (.inl ⟨hmm, rfl, rfl⟩)) [.code r51e] _ (fun r hr => H r _ _ (.inl ⟨hmm, rfl, rfl⟩) hr) mid (mid + m - b) mid (by omega) (Nat.le_refl _) (by omega) (Nat.le_refl _) (fun k g1 g2 => by omega) (fun k g1 g2 => by omega)
    subst hmid
    repeat' (first | ((show RRun _ _ _ (.code (.loop r51l4) :: _) _ _ _; refine RRun.loopIn ?_; exact S.keep [0, 1, 2, 3, 4, 18, 19, 20, 21, 22] rfl f4)) | refine S.nilK ?_ | (refine S.op rfl ?_; first | refine S.addNN rfl rfl (by omega) ?_ | refine S.subNN (n := 1) rfl rfl (by omega) (by omega) ?_ | refine S.subNN rfl rfl (by omega) (by omega) ?_ | refine S.convU (by omega) rfl ?_ | refine S.half rfl ?_ | refine S.convI (by omega) rfl ?_ | refine R.mv rfl ?_ | ((first | refine S.gtr rfl rfl ?_ ?_ | refine S.eqInt rfl rfl ?_ ?_) <;> intro hlt <;> try (exfalso; omega))) | refine S.seq ?_ | refine S.region ?_ | refine S.condT rfl ?_ | refine S.condF rfl ?_ | refine RRun.skip ?_ | refine RRun.block ?_)
  · have f4 := sy_find4 B n cap a m b mid (mid + m) (mid + m - 1) a m d sp hn hd (by omega) (by omega) (by omega) (hf _ _ (.inr ⟨hmm, rfl, rfl⟩)) [.code r51e] _ (fun r hr => H r _ _ (.inr ⟨hmm, rfl, rfl⟩) hr) m a m (by omega) (Nat.le_refl _) (by omega) (Nat.le_refl _) (fun k g1 g2 => by omega) (fun k g1 g2 => by omega)
    subst hmid
    repeat' (first | ((show RRun _ _ _ (.code (.loop r51l4) :: _) _ _ _; refine RRun.loopIn ?_; exact S.keep [0, 1, 2, 3, 4, 18, 19, 20, 21, 22] rfl f4)) | refine S.nilK ?_ | (refine S.op rfl ?_; first | refine S.addNN rfl rfl (by omega) ?_ | refine S.subNN (n := 1) rfl rfl (by omega) (by omega) ?_ | refine S.subNN rfl rfl (by omega) (by omega) ?_ | refine S.convU (by omega) rfl ?_ | refine S.half rfl ?_ | refine S.convI (by omega) rfl ?_ | refine R.mv rfl ?_ | ((first | refine S.gtr rfl rfl ?_ ?_ | refine S.eqInt rfl rfl ?_ ?_) <;> intro hlt <;> try (exfalso; omega))) | refine S.seq ?_ | refine S.region ?_ | refine S.condF rfl ?_ | refine RRun.skip ?_ | refine RRun.block ?_)
theorem sym_spec {l : List (Int × Bool)} {h : AHeap} {pb q : Nat} (B : Box l h pb q) (n cap : Nat) (sp : List AV) (hn : n ≤ 1000000) : ∀ (fu : Nat) (P A Bs Z : List Row), A.length + Bs.length ≤ fu → A ≠ [] → Bs ≠ [] → St.Sorted (ltR l) A → St.Sorted (ltR l) Bs → P.length + A.length + Bs.length + Z.length = n → ∀ (a m b : Nat), a = P.length → m = a + A.length → b = m + Bs.length →
    ACalls Try.prog 51 [slAt q 0 n cap, i64 a, i64 m, i64 b, cmpA pb] (HR h q (P ++ A ++ Bs ++ Z) sp) (fun _ h' => h' = HR h q (P ++ St.merge (ltR l) A Bs ++ Z) sp) := by
  intro fu
  induction fu with
  | zero =>
    intro P A Bs Z hfu hA0
    exact absurd (List.eq_nil_of_length_eq_zero (by omega)) hA0
  | succ fu ih =>
    intro P A Bs Z hfu hA0 hB0 hA hB hlen a m b ha hm hb
    have hAl : 0 < A.length := List.length_pos_iff.2 hA0
    have hBl : 0 < Bs.length := List.length_pos_iff.2 hB0
    by_cases h1 : A.length = 1
    · obtain ⟨x, rfl⟩ := List.length_eq_one_iff.1 h1
      exact sy_one B n cap x P Bs Z sp hn hB a m b ha hm hb hlen
    by_cases h2 : Bs.length = 1
    · obtain ⟨y, rfl⟩ := List.length_eq_one_iff.1 h2
      exact sy_more B n cap y P A Z sp hn hA a m b ha h1 hm hb (by simp at hlen ⊢; omega)
    obtain ⟨c', hc1, hc2⟩ := res51
    refine ACalls.enter Try.func51 hc1 Try.ntmps51 hc2 (Nat.le_of_ble_eq_true rfl) rfl ?_
    obtain ⟨mid, hmid⟩ : ∃ mid, mid = (a + b) / 2 := ⟨_, rfl⟩
    refine sy_head B n cap a m b mid _ sp hn (by omega) (by omega) (by omega) (by simp; omega) hmid _ (fun lo hi hlo => St.sym_falls (ltR_sw l) hA hB ha hm hb hmid hlo) (fun r lo hi hlo hr => ?_)
    obtain ⟨A1, A2, B1, B2, eA, eB, lA1, lA2, lB1, lB2, b1, b2, b3, b4, p1, p2⟩ := St.sym_parts (ltR_sw l) (Z := Z) hA hB ha hm hb hmid hlo hr
    have sA1 : St.Sorted (ltR l) A1 := by rw [eA] at hA; exact (List.pairwise_append.1 hA).1
    have sA2 : St.Sorted (ltR l) A2 := by rw [eA] at hA; exact (List.pairwise_append.1 hA).2.1
    have sB1 : St.Sorted (ltR l) B1 := by rw [eB] at hB; exact (List.pairwise_append.1 hB).1
    have sB2 : St.Sorted (ltR l) B2 := by rw [eB] at hB; exact (List.pairwise_append.1 hB).2.1
    have em : St.merge (ltR l) A Bs = St.merge (ltR l) A1 B1 ++ St.merge (ltR l) A2 B2 := by rw [eA, eB]; exact St.merge_split _ A1 A2 B1 B2 (Nat.le_refl _) p1 p2
    have ml1 := St.merge_length (lt := ltR l) _ A1 B1 (Nat.le_refl _)
    have lA : A.length = A1.length + A2.length := by rw [eA]; simp
    have lB : Bs.length = B1.length + B2.length := by rw [eB]; simp
    have e0 : P ++ A ++ Bs ++ Z = P ++ A1 ++ A2 ++ B1 ++ (B2 ++ Z) := by rw [eA, eB]; simp
    have e1 : P ++ A1 ++ B1 ++ A2 ++ (B2 ++ Z) = P ++ A1 ++ B1 ++ (A2 ++ B2 ++ Z) := by simp
    have e2 : P ++ St.merge (ltR l) A1 B1 ++ (A2 ++ B2 ++ Z) = P ++ St.merge (ltR l) A1 B1 ++ A2 ++ B2 ++ Z := by simp
    have e3 : P ++ St.merge (ltR l) A1 B1 ++ St.merge (ltR l) A2 B2 ++ Z = P ++ St.merge (ltR l) A Bs ++ Z := by rw [em]; simp
    rw [e0]
    refine sy_k1 P A1 A2 B1 (B2 ++ Z) sp h hn ha (by omega) (by omega) (by omega) (by simp; omega) _ ?_
    rw [e1]
    refine sy_k2 (l := l) P A1 B1 (A2 ++ B2 ++ Z) sp h hn (by omega) (by omega) (by omega) _ (fun n1 n2 => ih P A1 B1 (A2 ++ B2 ++ Z) (by omega) n1 n2 sA1 sB1 (by simp; omega) a r mid ha (by omega) (by omega)) ?_
    rw [e2, ← e3]
    exact sy_k3 (P ++ St.merge (ltR l) A1 B1) A2 B2 Z sp h hn (by omega) (by omega) (by omega) (by omega) (fun n1 n2 => ih (P ++ St.merge (ltR l) A1 B1) A2 B2 Z (by omega) n1 n2 sA2 sB2 (by simp; omega) mid (mid + m - r) b (by simp; omega) (by omega) (by omega))
end Go.Proofs.Ythadifboeggnpaa

namespace Go.Av
section
variable {P : Program} {c : Cls} {E : AEnv} {h : AHeap} {K : AV → AHeap → Prop}
theorem S.addK (a b k : Int) {x y : Operand} (hx : aev E x = some (i64 a)) (hy : aev E y = some (i64 b)) (hb : -9223372036854775808 ≤ a + b ∧ a + b ≤ 9223372036854775807) (e : a + b = k) (hk : K (i64 k) h) : ROpS P c (.bin .add x y) E h K := S.addI hx hy hb (by rw [e]; exact hk)
theorem S.mulK (a b k : Int) {x y : Operand} (hx : aev E x = some (i64 a)) (hy : aev E y = some (i64 b)) (hb : -9223372036854775808 ≤ a * b ∧ a * b ≤ 9223372036854775807) (e : a * b = k) (hk : K (i64 k) h) : ROpS P c (.bin .mul x y) E h K := S.arith hx hy rfl (by rw [wrap_i64 hb.1 hb.2, e]; exact hk)
end
end Go.Av
namespace Go.Proofs.Ythadifboeggnpaa
open Go.Av
theorem insertion_nil (D F : AV) (a : Nat) (ha : a ≤ 1000000) (h : AHeap) : ACalls Try.prog 50 [D, i64 a, i64 a, F] h (fun _ h' => h' = h) := by
  obtain ⟨c', hc1, hc2⟩ := res50
  refine ACalls.enter Try.func50 hc1 Try.ntmps50 hc2 (Nat.le_of_ble_eq_true rfl) rfl ?_
  repeat' (first | ((show RRunG _ _ _ (.code (.loop r50l0) :: _) _ _ _; refine RRun.loopIn ?_)) | ((show RRunG _ _ _ (.inLoop r50l0 :: _) _ _ _; refine RRun.inLoop ?_)) | refine S.nilK ?_ | (refine S.op rfl ?_; first | refine R.mv rfl ?_ | refine S.addI rfl rfl (by omega) ?_ | ((first | refine S.lss rfl rfl ?_ ?_) <;> intro hlt <;> try (exfalso; omega))) | refine S.seq ?_ | refine S.region ?_ | refine S.condF rfl ?_ | refine RRun.block ?_ | refine RRun.exit rfl ?_)
  apply S.done rr50
  case hx => repeat (first | exact ResAt.nil)
  rfl
def r37l0 : RCode :=
  (.seq (.seq (.region [
    ⟨(some 11), none, .act, .mv (.tmp 8)⟩,
    ⟨(some 12), none, .act, .mv (.tmp 1)⟩,
    ⟨(some 13), none, .act, .bin .leq (.tmp 11) (.tmp 12)⟩])
  (.cond (.tmp 13)
   .skip
   (.exit 0)))
  (.block 1
   (.seq (.region [
     ⟨(some 14), none, .act, .mv (.tmp 0)⟩,
     ⟨(some 15), none, .act, .mv (.tmp 7)⟩,
     ⟨(some 16), none, .act, .mv (.tmp 8)⟩,
     ⟨(some 17), none, .act, .mv (.tmp 2)⟩,
     ⟨(some 18), none, .act, .call 50 [(.tmp 14), (.tmp 15), (.tmp 16), (.tmp 17)]⟩])
   (.seq (.region [
     ⟨(some 19), none, .act, .mv (.tmp 8)⟩,
     ⟨(some 7), none, .act, .mv (.tmp 19)⟩])
   (.region [
     ⟨(some 20), none, .act, .mv (.tmp 8)⟩,
     ⟨(some 21), none, .act, .mv (.tmp 6)⟩,
     ⟨(some 22), none, .act, .bin .add (.tmp 20) (.tmp 21)⟩,
     ⟨(some 8), none, .act, .mv (.tmp 22)⟩])))))
def r37l2 : RCode :=
  (.seq (.seq (.region [
    ⟨(some 33), none, .act, .mv (.tmp 8)⟩,
    ⟨(some 34), none, .act, .mv (.tmp 1)⟩,
    ⟨(some 35), none, .act, .bin .leq (.tmp 33) (.tmp 34)⟩])
  (.cond (.tmp 35)
   .skip
   (.exit 4)))
  (.block 5
   (.seq (.region [
     ⟨(some 36), none, .act, .mv (.tmp 0)⟩,
     ⟨(some 37), none, .act, .mv (.tmp 7)⟩,
     ⟨(some 38), none, .act, .mv (.tmp 7)⟩,
     ⟨(some 39), none, .act, .mv (.tmp 6)⟩,
     ⟨(some 40), none, .act, .bin .add (.tmp 38) (.tmp 39)⟩,
     ⟨(some 41), none, .act, .mv (.tmp 8)⟩,
     ⟨(some 42), none, .act, .mv (.tmp 2)⟩,
     ⟨(some 43), none, .act, .call 51 [(.tmp 36), (.tmp 37), (.tmp 40), (.tmp 41), (.tmp 42)]⟩])
   (.seq (.region [
     ⟨(some 44), none, .act, .mv (.tmp 8)⟩,
     ⟨(some 7), none, .act, .mv (.tmp 44)⟩])
   (.region [
     ⟨(some 45), none, .act, .mv (.tmp 8)⟩,
     ⟨(some 46), none, .act, .mv (.tmp 6)⟩,
     ⟨(some 47), none, .act, .bin .mul (.const (.int .i64 2)) (.tmp 46)⟩,
     ⟨(some 48), none, .act, .bin .add (.tmp 45) (.tmp 47)⟩,
     ⟨(some 8), none, .act, .mv (.tmp 48)⟩])))))
def r37l1 : RCode :=
  (.seq (.seq (.region [
    ⟨(some 28), none, .act, .mv (.tmp 6)⟩,
    ⟨(some 29), none, .act, .mv (.tmp 1)⟩,
    ⟨(some 30), none, .act, .bin .lss (.tmp 28) (.tmp 29)⟩])
  (.cond (.tmp 30)
   .skip
   (.exit 2)))
  (.block 3
   (.seq (.region [
     ⟨(some 31), none, .act, .mv (.tmp 6)⟩,
     ⟨(some 32), none, .act, .bin .mul (.const (.int .i64 2)) (.tmp 31)⟩,
     ⟨(some 7), none, .act, .mv (.const (.int .i64 0))⟩,
     ⟨(some 8), none, .act, .mv (.tmp 32)⟩])
   (.seq (.block 4
    (.loop r37l2))
   (.seq (.seq (.region [
     ⟨(some 49), none, .act, .mv (.tmp 7)⟩,
     ⟨(some 50), none, .act, .mv (.tmp 6)⟩,
     ⟨(some 51), none, .act, .bin .add (.tmp 49) (.tmp 50)⟩,
     ⟨(some 9), none, .act, .mv (.tmp 51)⟩])
   (.seq (.region [
     ⟨(some 52), none, .act, .mv (.tmp 9)⟩,
     ⟨(some 53), none, .act, .mv (.tmp 1)⟩,
     ⟨(some 54), none, .act, .bin .lss (.tmp 52) (.tmp 53)⟩])
   (.cond (.tmp 54)
    (.region [
      ⟨(some 55), none, .act, .mv (.tmp 0)⟩,
      ⟨(some 56), none, .act, .mv (.tmp 7)⟩,
      ⟨(some 57), none, .act, .mv (.tmp 9)⟩,
      ⟨(some 58), none, .act, .mv (.tmp 1)⟩,
      ⟨(some 59), none, .act, .mv (.tmp 2)⟩,
      ⟨(some 60), none, .act, .call 51 [(.tmp 55), (.tmp 56), (.tmp 57), (.tmp 58), (.tmp 59)]⟩])
    .skip)))
   (.region [
     ⟨(some 61), none, .act, .mv (.tmp 6)⟩,
     ⟨(some 62), none, .act, .bin .mul (.tmp 61) (.const (.int .i64 2))⟩,
     ⟨(some 6), none, .act, .mv (.tmp 62)⟩]))))))
def r37 : RCode :=
  (.seq (.region [
    ⟨(some 6), none, .act, .mv (.const (.int .i64 20))⟩])
  (.seq (.region [
    ⟨(some 10), none, .act, .mv (.tmp 6)⟩,
    ⟨(some 7), none, .act, .mv (.const (.int .i64 0))⟩,
    ⟨(some 8), none, .act, .mv (.tmp 10)⟩])
  (.seq (.block 0
   (.loop r37l0))
  (.seq (.region [
    ⟨(some 23), none, .act, .mv (.tmp 0)⟩,
    ⟨(some 24), none, .act, .mv (.tmp 7)⟩,
    ⟨(some 25), none, .act, .mv (.tmp 1)⟩,
    ⟨(some 26), none, .act, .mv (.tmp 2)⟩,
    ⟨(some 27), none, .act, .call 50 [(.tmp 23), (.tmp 24), (.tmp 25), (.tmp 26)]⟩])
  (.block 2
   (.loop r37l1))))))
theorem res37 : ∃ c, Try.f37.body = some c ∧ resCode Try.prog 63 c = some r37 := ⟨_, rfl, by kernel_rfl⟩
theorem rr37 : resRes Try.prog Try.f37.results.toList = some [] := by kernel_rfl
theorem stable_nil (D F : AV) (h : AHeap) : ACalls Try.prog 37 [D, i64 0, F] h (fun _ h' => h' = h) := by
  have c50 := fun h => insertion_nil D F 0 (by decide) h
  obtain ⟨c', hc1, hc2⟩ := res37
  refine ACalls.enter Try.func37 hc1 Try.ntmps37 hc2 (Nat.le_of_ble_eq_true rfl) rfl ?_
  repeat' (first | ((show RRunG _ _ _ (.code (.loop r37l0) :: _) _ _ _; refine RRun.loopIn ?_)) | ((show RRunG _ _ _ (.inLoop r37l0 :: _) _ _ _; refine RRun.inLoop ?_)) | ((show RRunG _ _ _ (.code (.loop r37l1) :: _) _ _ _; refine RRun.loopIn ?_)) | ((show RRunG _ _ _ (.inLoop r37l1 :: _) _ _ _; refine RRun.inLoop ?_)) | refine S.nilK ?_ | (refine S.op rfl ?_; first | refine callU rfl rfl (c50 _) (fun _ => ?_) | refine R.mv rfl ?_ | ((first | refine S.lss rfl rfl ?_ ?_ | refine S.leq rfl rfl ?_ ?_) <;> intro hlt <;> try (exfalso; omega))) | refine S.seq ?_ | refine S.region ?_ | refine S.condF rfl ?_ | refine RRun.block ?_ | refine RRun.exit rfl ?_)
  apply S.done rr37
  case hx => repeat (first | exact ResAt.nil)
  rfl
theorem stable_two (n : Nat) (D F : AV) (hn : 20 < n) (hn2 : n ≤ 39) (h0 h1 h2 h3 : AHeap)
    (c1 : ACalls Try.prog 50 [D, i64 0, i64 20, F] h0 (fun _ h' => h' = h1)) (c2 : ACalls Try.prog 50 [D, i64 20, i64 n, F] h1 (fun _ h' => h' = h2)) (c3 : ACalls Try.prog 51 [D, i64 0, i64 20, i64 n, F] h2 (fun _ h' => h' = h3)) :
    ACalls Try.prog 37 [D, i64 n, F] h0 (fun _ h' => h' = h3) := by
  obtain ⟨c', hc1, hc2⟩ := res37
  refine ACalls.enter Try.func37 hc1 Try.ntmps37 hc2 (Nat.le_of_ble_eq_true rfl) rfl ?_
  repeat' (first | ((show RRunG _ _ _ (.code (.loop r37l0) :: _) _ _ _; refine RRun.loopIn ?_)) | ((show RRunG _ _ _ (.inLoop r37l0 :: _) _ _ _; refine RRun.inLoop ?_)) | ((show RRunG _ _ _ (.code (.loop r37l1) :: _) _ _ _; refine RRun.loopIn ?_)) | ((show RRunG _ _ _ (.inLoop r37l1 :: _) _ _ _; refine RRun.inLoop ?_)) | ((show RRunG _ _ _ (.code (.loop r37l2) :: _) _ _ _; refine RRun.loopIn ?_)) | ((show RRunG _ _ _ (.inLoop r37l2 :: _) _ _ _; refine RRun.inLoop ?_)) | refine S.nilK ?_ | (refine S.op rfl ?_; first | refine S.addK 0 20 20 rfl rfl (by decide) (by decide) ?_ | refine S.addK 20 20 40 rfl rfl (by decide) (by decide) ?_ | refine S.mulK 2 20 40 rfl rfl (by decide) (by decide) ?_ | refine S.mulK 20 2 40 rfl rfl (by decide) (by decide) ?_ | refine callU rfl rfl c1 (fun _ => ?_) | refine callU rfl rfl c2 (fun _ => ?_) | refine callU rfl rfl c3 (fun _ => ?_) | refine R.mv rfl ?_ | ((first | refine S.lss rfl rfl ?_ ?_ | refine S.leq rfl rfl ?_ ?_) <;> intro hlt <;> try (exfalso; omega))) | refine S.seq ?_ | refine S.region ?_ | refine S.condT rfl ?_ | refine S.condF rfl ?_ | refine RRun.skip ?_ | refine RRun.block ?_ | refine RRun.inBlock ?_ | refine RRun.exit rfl ?_)
  apply S.done rr37
  case hx => repeat (first | exact ResAt.nil)
  rfl
theorem stable_spec {l : List (Int × Bool)} {h : AHeap} {pb q : Nat} (B : Box l h pb q) (n cap : Nat) (A : List Row) (sp : List AV) (hA : A ≠ []) (hn : n = A.length) (hn2 : n ≤ 39) :
    ACalls Try.prog 37 [slAt q 0 n cap, i64 n, cmpA pb] (HR h q A sp) (fun _ h' => h' = HR h q (St.isort (ltR l) A) sp) := by
  rcases Nat.lt_or_ge n 20 with h1 | h1
  · obtain ⟨c', hc1, hc2⟩ := res37
    refine ACalls.enter Try.func37 hc1 Try.ntmps37 hc2 (Nat.le_of_ble_eq_true rfl) rfl ?_
    have c50 := insertion_spec B n cap 0 n [] A [] sp (by omega) hA rfl (by simp [hn]) (by simp [hn])
    simp only [List.nil_append, List.append_nil] at c50
    repeat' (first | ((show RRunG _ _ _ (.code (.loop r37l0) :: _) _ _ _; refine RRun.loopIn ?_)) | ((show RRunG _ _ _ (.inLoop r37l0 :: _) _ _ _; refine RRun.inLoop ?_)) | ((show RRunG _ _ _ (.code (.loop r37l1) :: _) _ _ _; refine RRun.loopIn ?_)) | ((show RRunG _ _ _ (.inLoop r37l1 :: _) _ _ _; refine RRun.inLoop ?_)) | refine S.nilK ?_ | (refine S.op rfl ?_; first | refine callU rfl rfl c50 (fun _ => ?_) | refine R.mv rfl ?_ | ((first | refine S.lss rfl rfl ?_ ?_ | refine S.leq rfl rfl ?_ ?_) <;> intro hlt <;> try (exfalso; omega))) | refine S.seq ?_ | refine S.region ?_ | refine S.condF rfl ?_ | refine RRun.block ?_ | refine RRun.exit rfl ?_)
    apply S.done rr37
    case hx => repeat (first | exact ResAt.nil)
    rfl
  · have hA' : A.take 20 ++ A.drop 20 = A := List.take_append_drop _ _
    have l1 : (A.take 20).length = 20 := by simp; omega
    have l2 : (A.drop 20).length = n - 20 := by simp; omega
    generalize A.take 20 = A1 at *
    generalize A.drop 20 = A2 at *
    subst hA'
    have c50 := insertion_spec B n cap 0 20 [] A1 A2 sp (by omega) (fun e => by rw [e] at l1; cases l1) rfl (by simp [l1]) (by simp [hn])
    simp only [List.nil_append] at c50
    have li := St.isort_length (ltR l) A1
    have li2 := St.isort_length (ltR l) A2
    rw [St.isort_append (ltR_sw l)]
    by_cases hA2 : A2 = []
    · subst hA2
      simp only [List.length_nil] at l2
      have hn20 : n = 20 := by omega
      subst hn20
      have c50' := fun h => insertion_nil (slAt q 0 20 cap) (cmpA pb) 20 (by decide) h
      rw [St.isort_nil, St.merge_nil']
      obtain ⟨c', hc1, hc2⟩ := res37
      refine ACalls.enter Try.func37 hc1 Try.ntmps37 hc2 (Nat.le_of_ble_eq_true rfl) rfl ?_
      simp only [List.append_nil] at c50 ⊢
      repeat' (first | ((show RRunG _ _ _ (.code (.loop r37l0) :: _) _ _ _; refine RRun.loopIn ?_)) | ((show RRunG _ _ _ (.inLoop r37l0 :: _) _ _ _; refine RRun.inLoop ?_)) | ((show RRunG _ _ _ (.code (.loop r37l1) :: _) _ _ _; refine RRun.loopIn ?_)) | ((show RRunG _ _ _ (.inLoop r37l1 :: _) _ _ _; refine RRun.inLoop ?_)) | refine S.nilK ?_ | (refine S.op rfl ?_; first | refine S.addK 20 20 40 rfl rfl (by decide) (by decide) ?_ | refine callU rfl rfl c50 (fun _ => ?_) | refine callU rfl rfl (c50' _) (fun _ => ?_) | refine R.mv rfl ?_ | ((first | refine S.lss rfl rfl ?_ ?_ | refine S.leq rfl rfl ?_ ?_) <;> intro hlt <;> try (exfalso; omega))) | refine S.seq ?_ | refine S.region ?_ | refine S.condT rfl ?_ | refine S.condF rfl ?_ | refine RRun.skip ?_ | refine RRun.block ?_ | refine RRun.inBlock ?_ | refine RRun.exit rfl ?_)
      apply S.done rr37
      case hx => repeat (first | exact ResAt.nil)
      rfl
    · have hA2l := List.length_pos_iff.2 hA2
      have c50' := insertion_spec B n cap 20 n (St.isort (ltR l) A1) A2 [] sp (by omega) hA2 (by omega) (by omega) (by simp; omega)
      simp only [List.append_nil] at c50'
      have c51 := sym_spec B n cap sp (by omega) _ [] (St.isort (ltR l) A1) (St.isort (ltR l) A2) [] (Nat.le_refl _) (fun e => by rw [e] at li; simp at li; omega) (fun e => by rw [e] at li2; simp at li2; omega) (St.isort_sorted (ltR_sw l) _) (St.isort_sorted (ltR_sw l) _) (by simp; omega) 0 20 n rfl (by omega) (by omega)
      simp only [List.nil_append, List.append_nil] at c51
      exact stable_two n _ _ (by omega) hn2 _ _ _ _ c50 c50' c51
def r28 : RCode :=
  (.region [
    ⟨(some 4), none, .act, .mv (.tmp 0)⟩,
    ⟨(some 5), none, .act, .mv (.tmp 0)⟩,
    ⟨(some 6), none, .act, .len (.tmp 5)⟩,
    ⟨(some 7), none, .act, .mv (.tmp 1)⟩,
    ⟨(some 8), none, .act, .call 37 [(.tmp 4), (.tmp 6), (.tmp 7)]⟩])
theorem res28 : ∃ c, Try.f28.body = some c ∧ resCode Try.prog 9 c = some r28 := ⟨_, rfl, by kernel_rfl⟩
theorem rr28 : resRes Try.prog Try.f28.results.toList = some [] := by kernel_rfl
theorem ssf_nil (F : AV) (h : AHeap) : ACalls Try.prog 28 [.v (.slice none 0 0), F] h (fun _ h' => h' = h) := by
  have c37 := stable_nil (.v (.slice none 0 0)) F h
  obtain ⟨c', hc1, hc2⟩ := res28
  refine ACalls.enter Try.func28 hc1 Try.ntmps28 hc2 (Nat.le_of_ble_eq_true rfl) rfl ?_
  repeat' (first | refine S.nilK ?_ | (refine S.op rfl ?_; first | refine callU rfl rfl c37 (fun _ => ?_) | refine R.mv rfl ?_ | refine R.lenA rfl ?_) | refine S.region ?_)
  apply S.done rr28
  case hx => repeat (first | exact ResAt.nil)
  rfl
theorem ssf_spec {l : List (Int × Bool)} {h : AHeap} {pb q : Nat} (B : Box l h pb q) (n cap : Nat) (A : List Row) (sp : List AV) (hA : A ≠ []) (hn : n = A.length) (hn2 : n ≤ 39) :
    ACalls Try.prog 28 [slAt q 0 n cap, cmpA pb] (HR h q A sp) (fun _ h' => h' = HR h q (St.isort (ltR l) A) sp) := by
  have c37 := stable_spec B n cap A sp hA hn hn2
  obtain ⟨c', hc1, hc2⟩ := res28
  refine ACalls.enter Try.func28 hc1 Try.ntmps28 hc2 (Nat.le_of_ble_eq_true rfl) rfl ?_
  repeat' (first | refine S.nilK ?_ | (refine S.op rfl ?_; first | refine callU rfl rfl c37 (fun _ => ?_) | refine R.mv rfl ?_ | refine R.lenA rfl ?_) | refine S.region ?_)
  apply S.done rr28
  case hx => repeat (first | exact ResAt.nil)
  rfl
def RowsAt (h₀ : AHeap) (d : List Row) (v : AV) (h : AHeap) : Prop :=
  (d = [] ∧ v = .v (.slice none 0 0) ∧ h = h₀) ∨ ∃ q cap sp, h₀ q = none ∧ v = slAt q 0 d.length cap ∧ h = HR h₀ q d sp ∧ d.length + sp.length = cap ∧ cap ≤ maxLen ∧ d ≠ []
theorem over_end (A Z X : List AV) (n : Nat) (hn : n = A.length) : over (A ++ Z) n X = A ++ X ++ Z.drop X.length := by
  subst hn
  unfold over
  rw [List.take_left, List.drop_append, List.drop_of_length_le (by omega), List.nil_append, show A.length + X.length - A.length = X.length by omega]
theorem S.pushRow {P : Program} {c : Cls} {E : AEnv} {h₀ h : AHeap} {K : AV → AHeap → Prop} {zero : List Value} {x y : Operand} {v y' : AV} {d : List Row} {r : Row} (hc : c = .act) (hr : RowsAt h₀ d v h) (hx : aev E x = some v) (hy : aev E y = some y') (hs : Go.Av.Src 1 y' [[rowA r]]) (hl : d.length ≤ 1000000)
    (hk : ∀ v' h', RowsAt h₀ (d ++ [r]) v' h' → K v' h') : ROpS P c (.append 1 24 zero x y) E h K := by
  rcases hr with ⟨rfl, rfl, rfl⟩ | ⟨p, cap, sp, h1, rfl, rfl, h2, h3, h4⟩
  · refine R.appendBox hc hx .nil hy hs (row_one r) (by simp) (by simp) (by simp) (fun p cap hp hc1 hc2 => hk _ _ (.inr ⟨p, cap, List.replicate ((cap - 1) * 1) .any, hp, rfl, rfl, ?_, hc2, by simp⟩))
    simp at hc1 ⊢; omega
  · refine ROpS.weak hc ?_
    refine R.appendOwn hc hx (HR_at _ _ _ _) (by simp; omega) (by omega) hy hs (row_one r) (by simp) (by simp; omega) (by simp; omega) (fun hroom => ?_) (fun p' cap' hp' hc1 hc2 => ?_)
    · refine ⟨_, _, .refl _, .refl _, hk _ _ (.inr ⟨p, cap, sp.drop 1, h1, ?_, ?_, ?_, h3, by simp⟩)⟩
      · simp
      · rw [over_end _ _ _ _ (by simp)]
        unfold HR
        rw [AHeap.set_set]; simp
      · simp at hroom ⊢; omega
    · have hp0 := AHeap.fresh_set hp'
      refine ⟨_, _, .refl _, ((AHeap.le.refl h₀).set _ h1).both p' _, hk _ _ (.inr ⟨p', cap', List.replicate ((cap' - (d.length + 1)) * 1) .any, hp0.2, ?_, ?_, ?_, hc2, by simp⟩)⟩
      · simp
      · unfold HR
        simp
      · simp at hc1 ⊢; omega
end Go.Proofs.Ythadifboeggnpaa

namespace Go.Proofs.Ythadifboeggnpaa
open Go.Av
theorem rows_flat : ∀ d : List Row, (d.map fun r => [rowA r]).flatten = d.map fun r => rowA r
  | [] => rfl
  | r :: d => by rw [List.map_cons, List.flatten_cons, rows_flat d]; rfl
def r15l0 : RCode :=
  (.seq (.region [
    ⟨(some 11), none, .act, .bin .lss (.tmp 10) (.tmp 9)⟩])
  (.seq (.cond (.tmp 11)
   .skip
   (.exit 0))
  (.seq (.block 1
   (.seq (.region [
     ⟨(some 12), none, .act, .indexAddr 1 (.tmp 8) (.tmp 10)⟩,
     ⟨(some 13), none, .act, .load false 1 (.tmp 12)⟩,
     ⟨(some 7), none, .act, .mv (.tmp 13)⟩])
   (.region [
     ⟨(some 14), none, .act, .mv (.tmp 5)⟩,
     ⟨(some 15), none, .act, .mv (.tmp 7)⟩,
     ⟨(some 16), none, .act, .call 27 [(.tmp 15)]⟩,
     ⟨(some 17), none, .act, .buildSl 1 [(.slice none 0 0)] 1 [(0, (.tmp 16))]⟩,
     ⟨(some 18), none, .act, .append 1 24 [(.slice none 0 0)] (.tmp 14) (.tmp 17)⟩,
     ⟨(some 5), none, .act, .mv (.tmp 18)⟩])))
  (.region [
    ⟨(some 19), none, .act, .bin .add (.tmp 10) (.const (.int .i64 1))⟩,
    ⟨(some 10), none, .act, .mv (.tmp 19)⟩]))))
def r15 : RCode :=
  (.seq (.region [
    ⟨(some 3), none, .act, .box (.tmp 1)⟩,
    ⟨(some 4), none, .act, .mv (.const (.slice none 0 0))⟩])
  (.seq (.region [
    ⟨(some 5), none, .act, .mv (.const (.slice none 0 0))⟩])
  (.seq (.seq (.region [
    ⟨(some 8), none, .act, .mv (.tmp 0)⟩,
    ⟨(some 9), none, .act, .len (.tmp 8)⟩,
    ⟨(some 10), none, .act, .mv (.const (.int .i64 0))⟩])
  (.block 0
   (.loop r15l0)))
  (.seq (.region [
    ⟨(some 20), none, .act, .mv (.tmp 5)⟩,
    ⟨(some 21), none, .act, .makeFunc (.func 29) [] [(.tmp 3)]⟩,
    ⟨(some 22), none, .act, .call 28 [(.tmp 20), (.tmp 21)]⟩])
  (.seq (.region [
    ⟨(some 23), none, .act, .mv (.tmp 5)⟩,
    ⟨(some 4), none, .act, .mv (.tmp 23)⟩])
  .ret)))))
theorem res15 : ∃ c, Try.f15.body = some c ∧ resCode Try.prog 24 c = some r15 := ⟨_, rfl, by kernel_rfl⟩
theorem rr15 : resRes Try.prog Try.f15.results.toList = some [.tmp 4] := by kernel_rfl
theorem sort_loop (l : List Row) (hl : l.length ≤ 1000) (hr : ∀ r ∈ l, r.length ≤ 1000) (h₀ : AHeap) (pb : Nat) (k : List RT) (Q : AV → AHeap → Prop)
    (hk : ∀ v h, RowsAt h₀ l v h → RRun Try.prog Try.f15 24 k (Env.get [(3, ptr pb), (5, v)]) h Q) : ∀ (m i : Nat) (v : AV) (h : AHeap), i + m = l.length → RowsAt h₀ (l.take i) v h →
    RRun Try.prog Try.f15 24 (.inLoop r15l0 :: .inBlock 0 :: k) (Env.get [(3, ptr pb), (5, v), (8, rowsA l), (9, i64 l.length), (10, i64 i)]) h Q := by
  intro m
  induction m with
  | zero =>
    intro i v h hi ha
    rw [List.take_of_length_le (by omega)] at ha
    refine RRun.inLoop ?_
    repeat' (first | refine S.nilK ?_ | (refine S.op rfl ?_; first | ((first | refine S.lss rfl rfl ?_ ?_) <;> intro hlt <;> try (exfalso; omega))) | refine S.seq ?_ | refine S.region ?_ | refine S.condF rfl ?_ | refine RRun.exit rfl ?_)
    exact S.keep [3, 5] rfl (hk v h ha)
  | succ m ih =>
    intro i v h hi ha
    have hie : i < l.length := by omega
    have h1 : (l.map fun r => [rowA r])[((i : Nat) : Int).toNat]? = some [rowA l[i]] := by simp [hie]
    have c27 := fun h => clone_spec l[i] (Nat.le_trans (hr _ (List.getElem_mem hie)) (by decide)) h
    have ht : l.take (i + 1) = l.take i ++ [l[i]] := by rw [List.take_add_one, List.getElem?_eq_getElem hie]; rfl
    have hih := fun v h => ih (i + 1) v h (by omega)
    rw [ht] at hih
    have htl : (l.take i).length ≤ 1000000 := by simp; omega
    generalize l[i] = r at h1 c27 hih
    refine RRun.inLoop ?_
    repeat' (first | refine S.nilK ?_ | (refine S.op rfl ?_; first | refine R.indexAddr rfl rfl (by omega) h1 ?_ | refine callS rfl rfl (c27 _) ?_ | refine S.pushRow rfl ha rfl rfl (.sl [[rowA r]] _) htl (fun v' h' ha' => ?_) | refine R.mv rfl ?_ | refine R.loadR rfl rfl ?_ | refine S.addI rfl rfl (by omega) ?_ | refine R.buildSl rfl rfl rfl (by decide) ?_ | ((first | refine S.lss rfl rfl ?_ ?_) <;> intro hlt <;> try (exfalso; omega))) | refine S.seq ?_ | refine S.region ?_ | refine S.condT rfl ?_ | refine RRun.skip ?_ | refine RRun.block ?_ | refine RRun.inBlock ?_)
    rw [show ((i : Int) + 1) = ((i + 1 : Nat) : Int) by omega]
    exact S.keep [3, 5, 8, 9, 10] rfl (hih _ _ ha')
theorem sort_spec (l : List Row) (by' : List (Int × Bool)) (hl : l.length ≤ 39) (hr : ∀ r ∈ l, r.length ≤ 1000) (hb1 : by'.length ≤ 1000000) (hb2 : ∀ p ∈ by', Fits p.1) (h : AHeap) :
    ACalls Try.prog 15 [rowsA l, bysA by'] h (fun x h' => x = rowsA (St.isort (ltR by') l) ∧ h' = h) := by
  obtain ⟨c', hc1, hc2⟩ := res15
  refine ACalls.weak (ACalls.enter Try.func15 hc1 Try.ntmps15 hc2 (Nat.le_of_ble_eq_true rfl) rfl ?_)
  have hlen : (l.map fun r => [rowA r]).length = l.length := by simp
  repeat' (first | refine S.nilK ?_ | (refine S.op rfl ?_; first | refine R.mv rfl ?_ | refine R.len rfl ?_ | refine R.box rfl rfl rfl (fun b hb => ?_)) | refine S.seq ?_ | refine S.region ?_ | refine RRun.block ?_)
  revert b hb
  intro pb hpb
  rw [hlen]
  refine RRun.loopIn (S.keep [3, 5, 8, 9, 10] rfl (sort_loop l (by omega) hr _ pb _ _ (fun v h1 hra => ?_) l.length 0 _ _ (by omega) (.inl ⟨rfl, rfl, rfl⟩)))
  rcases hra with ⟨rfl, rfl, rfl⟩ | ⟨q, cap, sp, hq0, rfl, rfl, hq1, hq2, hq3⟩
  · have c28 := fun F h => ssf_nil F h
    repeat' (first | refine S.nilK ?_ | (refine S.op rfl ?_; first | refine R.makeFuncA rfl rfl ?_ | refine callU rfl rfl (c28 _ _) (fun _ => ?_) | refine R.mv rfl ?_) | refine S.seq ?_ | refine S.region ?_)
    refine RRun.ret rr15 rfl ?_
    exact ⟨_, h, .nilSl 1 (c := .ro) trivial, (by repeat (first | exact AHeap.le.refl _ | refine AHeap.le.set ?_ _ (by (repeat' (first | assumption)); first | done | fail))), rfl, rfl⟩
  · have hne := AHeap.fresh_set hq0
    have B : Box by' (h.set pb (.box [bysA by'])) pb q := ⟨hb1, hb2, AHeap.set_same _ _ _, fun e => hne.1 e.symm⟩
    have c28 := ssf_spec B l.length cap l sp hq3 rfl hl
    have hlen2 := St.isort_length (ltR by') l
    repeat' (first | refine S.nilK ?_ | (refine S.op rfl ?_; first | refine R.makeFuncA rfl rfl ?_ | refine callU rfl rfl c28 (fun _ => ?_) | refine R.mv rfl ?_) | refine S.seq ?_ | refine S.region ?_)
    refine RRun.freezeS (t := 4) (es := (St.isort (ltR by') l).map fun r => [rowA r]) (sp := sp) (by simp [hlen2]) rfl (by rw [HR_at, rows_flat]) (sz := 1) (by simp) (by simp; omega) hq2 ?_
    refine RRun.ret rr15 rfl ?_
    exact ⟨_, h, .refl _, (((AHeap.le.refl h).set _ hpb).set _ hne.2).del hne.2, rfl, rfl⟩
end Go.Proofs.Ythadifboeggnpaa

namespace Go.Av
theorem bytesLess_lt : ∀ a b : List UInt8, Op.bytesLess a b = decide (Lib.compareBytes a b < 0)
  | [], [] => by simp [Op.bytesLess, Lib.compareBytes]
  | [], _ :: _ => by simp [Op.bytesLess, Lib.compareBytes]
  | _ :: _, [] => by simp [Op.bytesLess, Lib.compareBytes]
  | a :: x, b :: y => by
    have ih := bytesLess_lt x y
    simp only [Op.bytesLess, Lib.compareBytes]
    by_cases h1 : a < b
    · simp [h1]
    · by_cases h2 : b < a
      · have h3 : a ≠ b := fun e => by subst e; exact h1 h2
        simp [h1, h2, h3]
      · have h3 : a = b := by
          rw [UInt8.lt_iff_toNat_lt] at h1 h2
          exact UInt8.toNat_inj.1 (by omega)
        subst h3
        simp [h1, ih]
theorem compareBytes_eq : ∀ a b : List UInt8, (a == b) = decide (Lib.compareBytes a b = 0)
  | [], [] => by simp [Lib.compareBytes]
  | [], _ :: _ => by simp [Lib.compareBytes]
  | _ :: _, [] => by simp [Lib.compareBytes]
  | a :: x, b :: y => by
    have ih := compareBytes_eq x y
    simp only [Lib.compareBytes, List.cons_beq_cons]
    by_cases h1 : a < b
    · have h3 : a ≠ b := fun e => by subst e; rw [UInt8.lt_iff_toNat_lt] at h1; omega
      simp [h1, h3]
    · by_cases h2 : b < a
      · have h3 : a ≠ b := fun e => by subst e; exact h1 h2
        simp [h1, h2, h3]
      · have h3 : a = b := by
          rw [UInt8.lt_iff_toNat_lt] at h1 h2
          exact UInt8.toNat_inj.1 (by omega)
        subst h3
        simp [h1, ih]
section
variable {P : Program} {c : Cls} {E : AEnv} {h : AHeap} {K : AV → AHeap → Prop}
theorem S.strLss {x y : Operand} {a b : List UInt8} (hx : aev E x = some (str a)) (hy : aev E y = some (str b)) (H1 : Lib.compareBytes a b < 0 → K (.v (.bool true)) h) (H2 : ¬ Lib.compareBytes a b < 0 → K (.v (.bool false)) h) : ROpS P c (.bin .lss x y) E h K :=
  R.binStr hx hy rfl (by
    rw [mk_toList, mk_toList, bytesLess_lt]
    by_cases hc : Lib.compareBytes a b < 0
    · rw [decide_eq_true hc]; exact H1 hc
    · rw [decide_eq_false hc]; exact H2 hc)
theorem S.strGtr {x y : Operand} {a b : List UInt8} (hx : aev E x = some (str a)) (hy : aev E y = some (str b)) (H1 : 0 < Lib.compareBytes a b → K (.v (.bool true)) h) (H2 : ¬ 0 < Lib.compareBytes a b → K (.v (.bool false)) h) : ROpS P c (.bin .gtr x y) E h K :=
  R.binStr hx hy rfl (by
    rw [mk_toList, mk_toList, bytesLess_lt, compareBytes_eq]
    by_cases hc : 0 < Lib.compareBytes a b
    · rw [decide_eq_false (by omega), decide_eq_false (by omega)]; exact H1 hc
    · have : (decide (Lib.compareBytes a b < 0) || decide (Lib.compareBytes a b = 0)) = true := by
        rw [← Bool.decide_or]; exact decide_eq_true (by omega)
      rw [this]; exact H2 hc)
end
end Go.Av
namespace Go.Proofs.Ythadifboeggnpaa
open Go.Av
def r17 : RCode :=
  (.seq (.region [
    ⟨(some 2), none, .act, .box (.tmp 0)⟩,
    ⟨(some 3), none, .act, .box (.tmp 1)⟩,
    ⟨(some 4), none, .act, .mv (.const (.int .i64 0))⟩])
  (.seq (.block 0
   (.seq (.region [
     ⟨(some 6), none, .act, .fieldAddr 0 (.tmp 2)⟩,
     ⟨(some 7), none, .act, .load false 1 (.tmp 6)⟩,
     ⟨(some 8), none, .act, .fieldAddr 0 (.tmp 3)⟩,
     ⟨(some 9), none, .act, .load false 1 (.tmp 8)⟩,
     ⟨(some 10), none, .act, .bin .lss (.tmp 7) (.tmp 9)⟩,
     ⟨(some 5), none, .act, .mv (.tmp 10)⟩])
   (.cond (.tmp 5)
    (.seq (.region [
      ⟨(some 4), none, .act, .mv (.const (.int .i64 (-1)))⟩])
    .ret)
    (.seq (.region [
      ⟨(some 12), none, .act, .fieldAddr 0 (.tmp 2)⟩,
      ⟨(some 13), none, .act, .load false 1 (.tmp 12)⟩,
      ⟨(some 14), none, .act, .fieldAddr 0 (.tmp 3)⟩,
      ⟨(some 15), none, .act, .load false 1 (.tmp 14)⟩,
      ⟨(some 16), none, .act, .bin .gtr (.tmp 13) (.tmp 15)⟩,
      ⟨(some 11), none, .act, .mv (.tmp 16)⟩])
    (.cond (.tmp 11)
     (.seq (.region [
       ⟨(some 4), none, .act, .mv (.const (.int .i64 1))⟩])
     .ret)
     (.seq (.region [
       ⟨(some 18), none, .act, .fieldAddr 0 (.tmp 2)⟩,
       ⟨(some 19), none, .act, .load false 1 (.tmp 18)⟩,
       ⟨(some 20), none, .act, .eq false .int (.tmp 19) (.const (.int .i64 1))⟩,
       ⟨(some 21), none, .act, .mv (.tmp 20)⟩,
       ⟨(some 22), (some (21, true)), .act, .fieldAddr 1 (.tmp 2)⟩,
       ⟨(some 23), (some (21, true)), .act, .load false 1 (.tmp 22)⟩,
       ⟨(some 24), (some (21, true)), .act, .fieldAddr 1 (.tmp 3)⟩,
       ⟨(some 25), (some (21, true)), .act, .load false 1 (.tmp 24)⟩,
       ⟨(some 26), (some (21, true)), .act, .bin .lss (.tmp 23) (.tmp 25)⟩,
       ⟨(some 27), none, .act, .pick (.tmp 21) (.tmp 26) (.const (.bool false))⟩,
       ⟨(some 28), none, .act, .mv (.tmp 27)⟩,
       ⟨(some 29), (some (28, false)), .act, .fieldAddr 0 (.tmp 2)⟩,
       ⟨(some 30), (some (28, false)), .act, .load false 1 (.tmp 29)⟩,
       ⟨(some 31), (some (28, false)), .act, .eq false .int (.tmp 30) (.const (.int .i64 2))⟩,
       ⟨(some 32), (some (28, false)), .act, .mv (.tmp 31)⟩,
       ⟨(some 33), (some (32, true)), .act, .fieldAddr 2 (.tmp 2)⟩,
       ⟨(some 34), (some (32, true)), .act, .load false 1 (.tmp 33)⟩,
       ⟨(some 35), (some (32, true)), .act, .fieldAddr 2 (.tmp 3)⟩,
       ⟨(some 36), (some (32, true)), .act, .load false 1 (.tmp 35)⟩,
       ⟨(some 37), (some (32, true)), .act, .bin .lss (.tmp 34) (.tmp 36)⟩,
       ⟨(some 38), (some (28, false)), .act, .pick (.tmp 32) (.tmp 37) (.const (.bool false))⟩,
       ⟨(some 39), none, .act, .pick (.tmp 28) (.const (.bool true)) (.tmp 38)⟩,
       ⟨(some 17), none, .act, .mv (.tmp 39)⟩])
     (.cond (.tmp 17)
      (.seq (.region [
        ⟨(some 4), none, .act, .mv (.const (.int .i64 (-1)))⟩])
      .ret)
      (.seq (.region [
        ⟨(some 41), none, .act, .fieldAddr 0 (.tmp 2)⟩,
        ⟨(some 42), none, .act, .load false 1 (.tmp 41)⟩,
        ⟨(some 43), none, .act, .eq false .int (.tmp 42) (.const (.int .i64 1))⟩,
        ⟨(some 44), none, .act, .mv (.tmp 43)⟩,
        ⟨(some 45), (some (44, true)), .act, .fieldAddr 1 (.tmp 2)⟩,
        ⟨(some 46), (some (44, true)), .act, .load false 1 (.tmp 45)⟩,
        ⟨(some 47), (some (44, true)), .act, .fieldAddr 1 (.tmp 3)⟩,
        ⟨(some 48), (some (44, true)), .act, .load false 1 (.tmp 47)⟩,
        ⟨(some 49), (some (44, true)), .act, .bin .gtr (.tmp 46) (.tmp 48)⟩,
        ⟨(some 50), none, .act, .pick (.tmp 44) (.tmp 49) (.const (.bool false))⟩,
        ⟨(some 51), none, .act, .mv (.tmp 50)⟩,
        ⟨(some 52), (some (51, false)), .act, .fieldAddr 0 (.tmp 2)⟩,
        ⟨(some 53), (some (51, false)), .act, .load false 1 (.tmp 52)⟩,
        ⟨(some 54), (some (51, false)), .act, .eq false .int (.tmp 53) (.const (.int .i64 2))⟩,
        ⟨(some 55), (some (51, false)), .act, .mv (.tmp 54)⟩,
        ⟨(some 56), (some (55, true)), .act, .fieldAddr 2 (.tmp 2)⟩,
        ⟨(some 57), (some (55, true)), .act, .load false 1 (.tmp 56)⟩,
        ⟨(some 58), (some (55, true)), .act, .fieldAddr 2 (.tmp 3)⟩,
        ⟨(some 59), (some (55, true)), .act, .load false 1 (.tmp 58)⟩,
        ⟨(some 60), (some (55, true)), .act, .bin .gtr (.tmp 57) (.tmp 59)⟩,
        ⟨(some 61), (some (51, false)), .act, .pick (.tmp 55) (.tmp 60) (.const (.bool false))⟩,
        ⟨(some 62), none, .act, .pick (.tmp 51) (.const (.bool true)) (.tmp 61)⟩,
        ⟨(some 40), none, .act, .mv (.tmp 62)⟩])
      (.cond (.tmp 40)
       (.seq (.region [
         ⟨(some 4), none, .act, .mv (.const (.int .i64 1))⟩])
       .ret)
       .skip)))))))))
  (.seq (.region [
    ⟨(some 4), none, .act, .mv (.const (.int .i64 0))⟩])
  .ret)))
theorem res17 : ∃ c, Try.f17.body = some c ∧ resCode Try.prog 63 c = some r17 := ⟨_, rfl, by kernel_rfl⟩
theorem rr17 : resRes Try.prog Try.f17.results.toList = some [.tmp 4] := by kernel_rfl
theorem refOrder_spec (a b : Val) (h : AHeap) : ACalls Try.prog 17 [.ag a.cells, .ag b.cells] h (fun x h' => x = i64 (ordV a b) ∧ h' = h) := by
  obtain ⟨c', hc1, hc2⟩ := res17
  refine ACalls.weak (ACalls.enter Try.func17 hc1 Try.ntmps17 hc2 (Nat.le_of_ble_eq_true rfl) rfl ?_)
  obtain ⟨ak, an, sa⟩ := a
  obtain ⟨bk, bn, bs⟩ := b
  rw [show Val.cells ⟨ak, an, sa⟩ = [i64 ak, i64 an, str sa] from rfl, show Val.cells ⟨bk, bn, bs⟩ = [i64 bk, i64 bn, str bs] from rfl]
  have hsm := cb_sm sa bs
  have hv : ordV ⟨ak, an, sa⟩ ⟨bk, bn, bs⟩ = if ak = bk then (if ak = 1 then cmpI an bn else if ak = 2 then Lib.compareBytes sa bs else 0) else cmpI ak bk := rfl
  rw [hv]
  unfold cmpI
  repeat' (first | refine S.nilK ?_ | (refine S.op rfl ?_; first | refine S.strLss rfl rfl (fun _ => ?_) (fun _ => ?_) | refine S.strGtr rfl rfl (fun _ => ?_) (fun _ => ?_) | refine R.mv rfl ?_ | refine R.fieldAddr rfl ?_ | refine R.load (by decide) rfl (by (repeat' (first | exact AHeap.set_same _ _ _ | refine AHeap.get_fresh ‹_› ?_)); first | done | fail) rfl ?_ | refine R.pickT rfl rfl ?_ | refine R.pickF rfl rfl ?_ | refine R.box rfl rfl rfl (fun b hb => ?_) | ((first | refine S.lss rfl rfl ?_ ?_ | refine S.gtr rfl rfl ?_ ?_ | refine S.eqInt rfl rfl ?_ ?_) <;> intro hlt <;> try (exfalso; omega))) | refine S.skip rfl ?_ | refine S.seq ?_ | refine S.region ?_ | refine S.condT rfl ?_ | refine S.condF rfl ?_ | refine RRun.skip ?_ | refine RRun.block ?_ | refine RRun.inBlock ?_)
  all_goals
    apply S.ret rr17
    case hx => repeat (first | exact ResAt.nil | apply ResAt.tmp rfl)
    refine ⟨_, h, .refl _, (by repeat (first | exact AHeap.le.refl _ | refine AHeap.le.set ?_ _ (by (repeat' (first | assumption | exact AHeap.z1 ‹_›)); first | done | fail))), congrArg i64 ?_, rfl⟩
    repeat' split
    all_goals omega
end Go.Proofs.Ythadifboeggnpaa
