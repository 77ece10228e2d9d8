/-
  Groups have all rows among them, so their counts come to how many rows there are: for every input.
-/
import Derived.Test.YthadifboeggnpaaP22
import Derived.Test.YthadifboeggnpaaP17
import Derived.Test.YthadifboeggnpaaRows
import Derived.Test.YthadifboeggnpaaP23
import Derived.Test.YthadifboeggnpaaP24
set_option linter.unusedVariables false
set_option linter.unusedSimpArgs false
namespace Go.Proofs.Ythadifboeggnpaa
open Go.Av
def okN (n : Int) : AV := .tu [i64 (if Fits n then n else 0), bl (decide (Fits n))]
def r72 : RCode :=
  (.seq (.region [
    ⟨(some 4), none, .act, .mv (.const (.int .i64 0))⟩,
    ⟨(some 5), none, .act, .mv (.const (.bool false))⟩])
  (.seq (.seq (.region [
    ⟨(some 6), none, .act, .mv (.tmp 1)⟩,
    ⟨(some 7), none, .act, .un .not (.tmp 6)⟩])
  (.cond (.tmp 7)
   (.seq (.region [
     ⟨(some 4), none, .act, .mv (.const (.int .i64 0))⟩,
     ⟨(some 5), none, .act, .mv (.const (.bool false))⟩])
   .ret)
   .skip))
  (.seq (.region [
    ⟨(some 8), none, .act, .mv (.tmp 0)⟩,
    ⟨(some 4), none, .act, .mv (.tmp 8)⟩,
    ⟨(some 5), none, .act, .mv (.const (.bool true))⟩])
  .ret)))
theorem res72 : ∃ c, Try.f72.body = some c ∧ resCode Try.prog 9 c = some r72 := ⟨_, rfl, by kernel_rfl⟩
theorem rr72 : resRes Try.prog Try.f72.results.toList = some [.tmp 4, .tmp 5] := by kernel_rfl
theorem kept_spec (n : Int) (ok : Bool) (h : AHeap) : ACalls Try.prog 72 [i64 n, bl ok] h (fun x h' => x = .tu [i64 (if ok then n else 0), bl ok] ∧ h' = h) := by
  obtain ⟨c', hc1, hc2⟩ := res72
  refine ACalls.enter Try.func72 hc1 Try.ntmps72 hc2 (Nat.le_of_ble_eq_true rfl) rfl ?_
  cases ok
  all_goals
    repeat' (first | refine S.nilK ?_ | (refine S.op rfl ?_; first | refine R.mv rfl ?_ | refine R.not rfl ?_) | refine S.seq ?_ | refine S.region ?_ | refine S.condT rfl ?_ | refine S.condF rfl ?_ | refine RRun.skip ?_)
    apply S.ret rr72
    case hx => repeat (first | exact ResAt.nil | apply ResAt.tmp rfl)
    exact ⟨rfl, rfl⟩
def r73 : RCode :=
  (.seq (.region [
    ⟨(some 4), none, .act, .mv (.const (.bool false))⟩])
  (.seq (.region [
    ⟨(some 5), none, .act, .mv (.tmp 0)⟩,
    ⟨(some 6), none, .act, .mv (.tmp 1)⟩,
    ⟨(some 7), none, .act, .bin .xor (.tmp 5) (.tmp 6)⟩,
    ⟨(some 8), none, .act, .bin .shr (.tmp 7) (.const (.int .u64 63))⟩,
    ⟨(some 9), none, .act, .eq false .int (.tmp 8) (.const (.int .i64 0))⟩,
    ⟨(some 4), none, .act, .mv (.tmp 9)⟩])
  .ret))
theorem res73 : ∃ c, Try.f73.body = some c ∧ resCode Try.prog 10 c = some r73 := ⟨_, rfl, by kernel_rfl⟩
theorem rr73 : resRes Try.prog Try.f73.results.toList = some [.tmp 4] := by kernel_rfl
theorem same_spec (a b : Int) (ha : Fits a) (hb : Fits b) (h : AHeap) : ACalls Try.prog 73 [i64 a, i64 b] h (fun x h' => x = bl (decide (a < 0 ↔ b < 0)) ∧ h' = h) := by
  obtain ⟨c', hc1, hc2⟩ := res73
  refine ACalls.enter Try.func73 hc1 Try.ntmps73 hc2 (Nat.le_of_ble_eq_true rfl) rfl ?_
  have hx := xor_sign ha hb
  have hf := fdiv_sign (wrap_i64_fits ((BitVec.ofInt 64 a ^^^ BitVec.ofInt 64 b).toNat : Int))
  repeat' (first | refine S.nilK ?_ | (refine S.op rfl ?_; first | refine R.bin rfl rfl (by rfl) ?_ | refine R.shr rfl rfl (by decide) ?_ | refine R.mv rfl ?_ | ((first | refine S.eqInt rfl rfl ?_ ?_) <;> intro hlt <;> try (exfalso; omega))) | refine S.seq ?_ | refine S.region ?_)
  · apply S.ret rr73
    case hx => repeat (first | exact ResAt.nil | apply ResAt.tmp rfl)
    exact ⟨congrArg bl (Eq.symm (decide_eq_true (Decidable.not_not.1 (fun e => (hf.1 hlt) (hx.2 e))))), rfl⟩
  · apply S.ret rr73
    case hx => repeat (first | exact ResAt.nil | apply ResAt.tmp rfl)
    exact ⟨congrArg bl (Eq.symm (decide_eq_false (fun e => hlt (hf.2 (fun e' => (hx.1 e') e))))), rfl⟩
theorem wrap_u64_min {n : Int} (hn : Fits n) : IntKind.u64.wrap n = 9223372036854775808 ↔ n = -9223372036854775808 := by
  simp only [IntKind.wrap, IntKind.bits, IntKind.signed]
  simp
  omega
def r74 : RCode :=
  (.seq (.region [
    ⟨(some 2), none, .act, .mv (.const (.bool false))⟩])
  (.seq (.region [
    ⟨(some 3), none, .act, .mv (.tmp 0)⟩,
    ⟨(some 4), none, .act, .convInt .u64 (.tmp 3)⟩,
    ⟨(some 5), none, .act, .eq false .int (.tmp 4) (.const (.int .u64 9223372036854775808))⟩,
    ⟨(some 2), none, .act, .mv (.tmp 5)⟩])
  .ret))
theorem res74 : ∃ c, Try.f74.body = some c ∧ resCode Try.prog 6 c = some r74 := ⟨_, rfl, by kernel_rfl⟩
theorem rr74 : resRes Try.prog Try.f74.results.toList = some [.tmp 2] := by kernel_rfl
theorem least_spec (n : Int) (hn : Fits n) (h : AHeap) : ACalls Try.prog 74 [i64 n] h (fun x h' => x = bl (decide (n = -9223372036854775808)) ∧ h' = h) := by
  obtain ⟨c', hc1, hc2⟩ := res74
  refine ACalls.enter Try.func74 hc1 Try.ntmps74 hc2 (Nat.le_of_ble_eq_true rfl) rfl ?_
  have hw := wrap_u64_min hn
  repeat' (first | refine S.nilK ?_ | (refine S.op rfl ?_; first | refine S.eqInt rfl rfl (fun hlt => ?_) (fun hlt => ?_) | refine R.mv rfl ?_ | refine R.convInt rfl ?_) | refine S.seq ?_ | refine S.region ?_)
  · apply S.ret rr74
    case hx => repeat (first | exact ResAt.nil | apply ResAt.tmp rfl)
    exact ⟨congrArg bl (Eq.symm (decide_eq_true (hw.1 hlt))), rfl⟩
  · apply S.ret rr74
    case hx => repeat (first | exact ResAt.nil | apply ResAt.tmp rfl)
    exact ⟨congrArg bl (Eq.symm (decide_eq_false (fun e => hlt (hw.2 e)))), rfl⟩
theorem okN_of {n m : Int} {b : Bool} (hb : b = decide (Fits n)) (hm : Fits n → m = n) : AV.tu [i64 (if b then m else 0), bl b] = okN n := by
  subst hb
  unfold okN
  by_cases h : Fits n
  · rw [if_pos (decide_eq_true h), if_pos h, hm h]
  · rw [if_neg (by simp only [decide_eq_true_eq]; exact h), if_neg h]
def r65 : RCode :=
  (.seq (.region [
    ⟨(some 2), none, .act, .mv (.const (.int .i64 0))⟩,
    ⟨(some 3), none, .act, .mv (.const (.bool false))⟩])
  (.seq (.region [
    ⟨(some 4), none, .act, .mv (.tmp 0)⟩,
    ⟨(some 5), none, .act, .un .neg (.tmp 4)⟩,
    ⟨(some 6), none, .act, .mv (.tmp 0)⟩,
    ⟨(some 7), none, .act, .call 74 [(.tmp 6)]⟩,
    ⟨(some 8), none, .act, .un .not (.tmp 7)⟩,
    ⟨(some 9), none, .act, .call 72 [(.tmp 5), (.tmp 8)]⟩,
    ⟨(some 10), none, .act, .extract (.tmp 9) 0⟩,
    ⟨(some 11), none, .act, .extract (.tmp 9) 1⟩,
    ⟨(some 2), none, .act, .mv (.tmp 10)⟩,
    ⟨(some 3), none, .act, .mv (.tmp 11)⟩])
  .ret))
theorem res65 : ∃ c, Try.f65.body = some c ∧ resCode Try.prog 12 c = some r65 := ⟨_, rfl, by kernel_rfl⟩
theorem rr65 : resRes Try.prog Try.f65.results.toList = some [.tmp 2, .tmp 3] := by kernel_rfl
theorem neg_spec (n : Int) (hn : Fits n) (h : AHeap) : ACalls Try.prog 65 [i64 n] h (fun x h' => x = okN (-n) ∧ h' = h) := by
  obtain ⟨c', hc1, hc2⟩ := res65
  refine ACalls.enter Try.func65 hc1 Try.ntmps65 hc2 (Nat.le_of_ble_eq_true rfl) rfl ?_
  have c1 := least_spec n hn h
  have hb : (!(decide (n = -9223372036854775808))) = decide (Fits (-n)) := by
    by_cases he : n = -9223372036854775808
    · subst he; decide
    · simp only [he, decide_false, Bool.not_false]; exact (decide_eq_true (by omega)).symm
  have c2 := kept_spec (IntKind.i64.wrap (0 - n)) (!(decide (n = -9223372036854775808))) h
  rw [okN_of hb (fun hf => by have := wrap_i64_fits (0 - n); obtain ⟨k, hk⟩ := wrap_i64_mod (0 - n); omega)] at c2
  repeat' (first | refine S.nilK ?_ | (refine S.op rfl ?_; first | refine R.neg rfl ?_ | refine R.callQ (by decide) rfl c1 ?_ | refine R.callQ (by decide) rfl c2 ?_ | refine R.mv rfl ?_ | refine R.not rfl ?_ | refine R.extract rfl rfl ?_) | refine S.seq ?_ | refine S.region ?_)
  apply S.ret rr65
  case hx => repeat (first | exact ResAt.nil | apply ResAt.tmp rfl)
  exact ⟨rfl, rfl⟩
def r64 : RCode :=
  (.seq (.region [
    ⟨(some 4), none, .act, .mv (.const (.int .i64 0))⟩,
    ⟨(some 5), none, .act, .mv (.const (.bool false))⟩])
  (.seq (.region [
    ⟨(some 7), none, .act, .mv (.tmp 0)⟩,
    ⟨(some 8), none, .act, .mv (.tmp 1)⟩,
    ⟨(some 9), none, .act, .bin .add (.tmp 7) (.tmp 8)⟩,
    ⟨(some 6), none, .act, .mv (.tmp 9)⟩])
  (.seq (.region [
    ⟨(some 10), none, .act, .mv (.tmp 6)⟩,
    ⟨(some 11), none, .act, .mv (.tmp 0)⟩,
    ⟨(some 12), none, .act, .mv (.tmp 1)⟩,
    ⟨(some 13), none, .act, .call 73 [(.tmp 11), (.tmp 12)]⟩,
    ⟨(some 14), none, .act, .un .not (.tmp 13)⟩,
    ⟨(some 15), none, .act, .mv (.tmp 14)⟩,
    ⟨(some 16), (some (15, false)), .act, .mv (.tmp 0)⟩,
    ⟨(some 17), (some (15, false)), .act, .mv (.tmp 6)⟩,
    ⟨(some 18), (some (15, false)), .act, .call 73 [(.tmp 16), (.tmp 17)]⟩,
    ⟨(some 19), none, .act, .pick (.tmp 15) (.const (.bool true)) (.tmp 18)⟩,
    ⟨(some 20), none, .act, .call 72 [(.tmp 10), (.tmp 19)]⟩,
    ⟨(some 21), none, .act, .extract (.tmp 20) 0⟩,
    ⟨(some 22), none, .act, .extract (.tmp 20) 1⟩,
    ⟨(some 4), none, .act, .mv (.tmp 21)⟩,
    ⟨(some 5), none, .act, .mv (.tmp 22)⟩])
  .ret)))
theorem res64 : ∃ c, Try.f64.body = some c ∧ resCode Try.prog 23 c = some r64 := ⟨_, rfl, by kernel_rfl⟩
theorem rr64 : resRes Try.prog Try.f64.results.toList = some [.tmp 4, .tmp 5] := by kernel_rfl
theorem add_spec (a b : Int) (ha : Fits a) (hb : Fits b) (h : AHeap) : ACalls Try.prog 64 [i64 a, i64 b] h (fun x h' => x = okN (a + b) ∧ h' = h) := by
  obtain ⟨c', hc1, hc2⟩ := res64
  refine ACalls.enter Try.func64 hc1 Try.ntmps64 hc2 (Nat.le_of_ble_eq_true rfl) rfl ?_
  have hw := wrap_i64_fits (a + b)
  obtain ⟨k, hk⟩ := wrap_i64_mod (a + b)
  have c1 := same_spec a b ha hb h
  have c2 := same_spec a (IntKind.i64.wrap (a + b)) ha hw h
  cases h1 : decide (a < 0 ↔ b < 0) with
  | false =>
    rw [h1] at c1
    have h1' := of_decide_eq_false h1
    have c3 := kept_spec (IntKind.i64.wrap (a + b)) true h
    rw [okN_of (n := a + b) (decide_eq_true (by omega)).symm (fun hf => by omega)] at c3
    repeat' (first | refine S.nilK ?_ | (refine S.op rfl ?_; first | refine S.arith rfl rfl rfl ?_ | refine R.callQ (by decide) rfl c1 ?_ | refine R.callQ (by decide) rfl c3 ?_ | refine R.mv rfl ?_ | refine R.pickT rfl rfl ?_ | refine R.not rfl ?_ | refine R.extract rfl rfl ?_) | refine S.skip rfl ?_ | refine S.seq ?_ | refine S.region ?_)
    apply S.ret rr64
    case hx => repeat (first | exact ResAt.nil | apply ResAt.tmp rfl)
    exact ⟨rfl, rfl⟩
  | true =>
    rw [h1] at c1
    have h1' := of_decide_eq_true h1
    have c3 := kept_spec (IntKind.i64.wrap (a + b)) (decide (a < 0 ↔ IntKind.i64.wrap (a + b) < 0)) h
    rw [okN_of (n := a + b) (decide_eq_decide.2 (by omega)) (fun hf => by omega)] at c3
    repeat' (first | refine S.nilK ?_ | (refine S.op rfl ?_; first | refine S.arith rfl rfl rfl ?_ | refine R.callQ (by decide) rfl c1 ?_ | refine R.callQ (by decide) rfl c2 ?_ | refine R.callQ (by decide) rfl c3 ?_ | refine R.mv rfl ?_ | refine R.pickF rfl rfl ?_ | refine R.not rfl ?_ | refine R.extract rfl rfl ?_) | refine S.seq ?_ | refine S.region ?_)
    apply S.ret rr64
    case hx => repeat (first | exact ResAt.nil | apply ResAt.tmp rfl)
    exact ⟨rfl, rfl⟩
def r67 : RCode :=
  (.seq (.region [
    ⟨(some 4), none, .act, .mv (.const (.int .i64 0))⟩,
    ⟨(some 5), none, .act, .mv (.const (.bool false))⟩])
  (.seq (.seq (.region [
    ⟨(some 7), none, .act, .mv (.tmp 0)⟩,
    ⟨(some 8), none, .act, .eq false .int (.tmp 7) (.const (.int .i64 0))⟩,
    ⟨(some 9), none, .act, .mv (.tmp 8)⟩,
    ⟨(some 10), (some (9, false)), .act, .mv (.tmp 1)⟩,
    ⟨(some 11), (some (9, false)), .act, .eq false .int (.tmp 10) (.const (.int .i64 0))⟩,
    ⟨(some 12), none, .act, .pick (.tmp 9) (.const (.bool true)) (.tmp 11)⟩])
  (.cond (.tmp 12)
   (.seq (.region [
     ⟨(some 4), none, .act, .mv (.const (.int .i64 0))⟩,
     ⟨(some 5), none, .act, .mv (.const (.bool true))⟩])
   .ret)
   .skip))
  (.seq (.seq (.region [
    ⟨(some 13), none, .act, .mv (.tmp 0)⟩,
    ⟨(some 14), none, .act, .eq false .int (.tmp 13) (.const (.int .i64 (-1)))⟩])
  (.cond (.tmp 14)
   (.seq (.region [
     ⟨(some 15), none, .act, .mv (.tmp 1)⟩,
     ⟨(some 16), none, .act, .call 65 [(.tmp 15)]⟩,
     ⟨(some 17), none, .act, .extract (.tmp 16) 0⟩,
     ⟨(some 18), none, .act, .extract (.tmp 16) 1⟩,
     ⟨(some 4), none, .act, .mv (.tmp 17)⟩,
     ⟨(some 5), none, .act, .mv (.tmp 18)⟩])
   .ret)
   .skip))
  (.seq (.seq (.region [
    ⟨(some 19), none, .act, .mv (.tmp 1)⟩,
    ⟨(some 20), none, .act, .eq false .int (.tmp 19) (.const (.int .i64 (-1)))⟩])
  (.cond (.tmp 20)
   (.seq (.region [
     ⟨(some 21), none, .act, .mv (.tmp 0)⟩,
     ⟨(some 22), none, .act, .call 65 [(.tmp 21)]⟩,
     ⟨(some 23), none, .act, .extract (.tmp 22) 0⟩,
     ⟨(some 24), none, .act, .extract (.tmp 22) 1⟩,
     ⟨(some 4), none, .act, .mv (.tmp 23)⟩,
     ⟨(some 5), none, .act, .mv (.tmp 24)⟩])
   .ret)
   .skip))
  (.seq (.region [
    ⟨(some 25), none, .act, .mv (.tmp 0)⟩,
    ⟨(some 26), none, .act, .mv (.tmp 1)⟩,
    ⟨(some 27), none, .act, .bin .mul (.tmp 25) (.tmp 26)⟩,
    ⟨(some 6), none, .act, .mv (.tmp 27)⟩])
  (.seq (.region [
    ⟨(some 28), none, .act, .mv (.tmp 6)⟩,
    ⟨(some 29), none, .act, .mv (.tmp 6)⟩,
    ⟨(some 30), none, .act, .mv (.tmp 1)⟩,
    ⟨(some 31), none, .act, .bin .quo (.tmp 29) (.tmp 30)⟩,
    ⟨(some 32), none, .act, .mv (.tmp 0)⟩,
    ⟨(some 33), none, .act, .eq false .int (.tmp 31) (.tmp 32)⟩,
    ⟨(some 34), none, .act, .call 72 [(.tmp 28), (.tmp 33)]⟩,
    ⟨(some 35), none, .act, .extract (.tmp 34) 0⟩,
    ⟨(some 36), none, .act, .extract (.tmp 34) 1⟩,
    ⟨(some 4), none, .act, .mv (.tmp 35)⟩,
    ⟨(some 5), none, .act, .mv (.tmp 36)⟩])
  .ret))))))
theorem res67 : ∃ c, Try.f67.body = some c ∧ resCode Try.prog 37 c = some r67 := ⟨_, rfl, by kernel_rfl⟩
theorem rr67 : resRes Try.prog Try.f67.results.toList = some [.tmp 4, .tmp 5] := by kernel_rfl
theorem mul_spec (a b : Int) (ha : Fits a) (hb : Fits b) (h : AHeap) : ACalls Try.prog 67 [i64 a, i64 b] h (fun x h' => x = okN (a * b) ∧ h' = h) := by
  obtain ⟨c', hc1, hc2⟩ := res67
  refine ACalls.enter Try.func67 hc1 Try.ntmps67 hc2 (Nat.le_of_ble_eq_true rfl) rfl ?_
  have hw := wrap_i64_fits (a * b)
  obtain ⟨k, hk⟩ := wrap_i64_mod (a * b)
  have c1 := neg_spec a ha h
  have c2 := neg_spec b hb h
  by_cases ha0 : a = 0
  · subst ha0
    repeat' (first | refine S.nilK ?_ | (refine S.op rfl ?_; first | refine R.mv rfl ?_ | refine R.pickT rfl rfl ?_ | ((first | refine S.eqInt rfl rfl ?_ ?_) <;> intro hlt <;> try (exfalso; omega))) | refine S.skip rfl ?_ | refine S.seq ?_ | refine S.region ?_ | refine S.condT rfl ?_)
    all_goals
      apply S.ret rr67
      case hx => repeat (first | exact ResAt.nil | apply ResAt.tmp rfl)
      exact ⟨by rw [Int.zero_mul]; rfl, rfl⟩
  by_cases hb0 : b = 0
  · subst hb0
    repeat' (first | refine S.nilK ?_ | (refine S.op rfl ?_; first | refine R.mv rfl ?_ | refine R.pickF rfl rfl ?_ | ((first | refine S.eqInt rfl rfl ?_ ?_) <;> intro hlt <;> try (exfalso; omega))) | refine S.seq ?_ | refine S.region ?_ | refine S.condT rfl ?_)
    all_goals
      apply S.ret rr67
      case hx => repeat (first | exact ResAt.nil | apply ResAt.tmp rfl)
      exact ⟨by rw [Int.mul_zero]; rfl, rfl⟩
  by_cases ha1 : a = -1
  · subst ha1
    repeat' (first | refine S.nilK ?_ | (refine S.op rfl ?_; first | refine R.callQ (by decide) rfl c2 ?_ | refine R.mv rfl ?_ | refine R.pickF rfl rfl ?_ | refine R.extract rfl rfl ?_ | ((first | refine S.eqInt rfl rfl ?_ ?_) <;> intro hlt <;> try (exfalso; omega))) | refine S.seq ?_ | refine S.region ?_ | refine S.condT rfl ?_ | refine S.condF rfl ?_ | refine RRun.skip ?_)
    apply S.ret rr67
    case hx => repeat (first | exact ResAt.nil | apply ResAt.tmp rfl)
    exact ⟨by rw [show -1 * b = -b by omega]; rfl, rfl⟩
  by_cases hb1 : b = -1
  · subst hb1
    repeat' (first | refine S.nilK ?_ | (refine S.op rfl ?_; first | refine R.callQ (by decide) rfl c1 ?_ | refine R.mv rfl ?_ | refine R.pickF rfl rfl ?_ | refine R.extract rfl rfl ?_ | ((first | refine S.eqInt rfl rfl ?_ ?_) <;> intro hlt <;> try (exfalso; omega))) | refine S.seq ?_ | refine S.region ?_ | refine S.condT rfl ?_ | refine S.condF rfl ?_ | refine RRun.skip ?_)
    apply S.ret rr67
    case hx => repeat (first | exact ResAt.nil | apply ResAt.tmp rfl)
    exact ⟨by rw [show a * -1 = -a by omega]; rfl, rfl⟩
  have ht := tdiv_wrap (a := a) hb hb0
  have hq : binInt .quo .i64 (IntKind.i64.wrap (a * b)) b = some (.int .i64 (IntKind.i64.wrap ((IntKind.i64.wrap (a * b)).tdiv b))) := by
    simp only [binInt, if_neg hb0]
  have hqw : IntKind.i64.wrap ((IntKind.i64.wrap (a * b)).tdiv b) = (IntKind.i64.wrap (a * b)).tdiv b := by
    by_cases hb2 : b = 1
    · rw [hb2, Int.tdiv_one]
      have := wrap_i64_fits (a * 1)
      exact wrap_i64 (by omega) (by omega)
    have h1 : ((IntKind.i64.wrap (a * b)).tdiv b).natAbs ≤ (IntKind.i64.wrap (a * b)).natAbs / 2 := by
      rw [Int.natAbs_tdiv]
      exact Nat.div_le_div_left (by omega) (by omega)
    generalize (IntKind.i64.wrap (a * b)).tdiv b = q at h1 ⊢
    generalize IntKind.i64.wrap (a * b) = r at h1 hw
    exact wrap_i64 (by omega) (by omega)
  rw [hqw] at hq
  have hfw : IntKind.i64.wrap (a * b) = a * b ↔ Fits (a * b) := ⟨fun e => e ▸ hw, fun e => by omega⟩
  have c3 := kept_spec (IntKind.i64.wrap (a * b)) (decide (Fits (a * b))) h
  rw [okN_of (n := a * b) rfl (fun hf => hfw.2 hf)] at c3
  by_cases hf : Fits (a * b)
  · have e1 : (IntKind.i64.wrap (a * b)).tdiv b = a := ht.2 (hfw.2 hf)
    rw [decide_eq_true hf] at c3
    rw [e1] at hq
    repeat' (first | refine S.nilK ?_ | (refine S.op rfl ?_; first | refine R.bin rfl rfl hq ?_ | refine R.bin rfl rfl (by rfl) ?_ | refine S.eqIntSame rfl rfl ?_ | refine R.callQ (by decide) rfl c3 ?_ | refine R.mv rfl ?_ | refine R.pickF rfl rfl ?_ | refine R.extract rfl rfl ?_ | ((first | refine S.eqInt rfl rfl ?_ ?_) <;> intro hlt <;> try (exfalso; omega))) | refine S.seq ?_ | refine S.region ?_ | refine S.condF rfl ?_ | refine RRun.skip ?_)
    apply S.ret rr67
    case hx => repeat (first | exact ResAt.nil | apply ResAt.tmp rfl)
    exact ⟨rfl, rfl⟩
  · have e1 : ¬ (IntKind.i64.wrap (a * b)).tdiv b = a := fun e => hf (hfw.1 (ht.1 e))
    rw [decide_eq_false hf] at c3
    generalize (IntKind.i64.wrap (a * b)).tdiv b = q at hq e1
    repeat' (first | refine S.nilK ?_ | (refine S.op rfl ?_; first | refine R.bin rfl rfl hq ?_ | refine R.bin rfl rfl (by rfl) ?_ | refine R.callQ (by decide) rfl c3 ?_ | refine R.mv rfl ?_ | refine R.pickF rfl rfl ?_ | refine R.extract rfl rfl ?_ | ((first | refine S.eqInt rfl rfl ?_ ?_) <;> intro hlt <;> try (exfalso; omega))) | refine S.seq ?_ | refine S.region ?_ | refine S.condF rfl ?_ | refine RRun.skip ?_)
    apply S.ret rr67
    case hx => repeat (first | exact ResAt.nil | apply ResAt.tmp rfl)
    exact ⟨rfl, rfl⟩
def r66 : RCode :=
  (.seq (.region [
    ⟨(some 4), none, .act, .mv (.const (.int .i64 0))⟩,
    ⟨(some 5), none, .act, .mv (.const (.bool false))⟩])
  (.seq (.region [
    ⟨(some 7), none, .act, .mv (.tmp 0)⟩,
    ⟨(some 8), none, .act, .mv (.tmp 1)⟩,
    ⟨(some 9), none, .act, .bin .sub (.tmp 7) (.tmp 8)⟩,
    ⟨(some 6), none, .act, .mv (.tmp 9)⟩])
  (.seq (.region [
    ⟨(some 10), none, .act, .mv (.tmp 6)⟩,
    ⟨(some 11), none, .act, .mv (.tmp 0)⟩,
    ⟨(some 12), none, .act, .mv (.tmp 1)⟩,
    ⟨(some 13), none, .act, .call 73 [(.tmp 11), (.tmp 12)]⟩,
    ⟨(some 14), none, .act, .mv (.tmp 13)⟩,
    ⟨(some 15), (some (14, false)), .act, .mv (.tmp 0)⟩,
    ⟨(some 16), (some (14, false)), .act, .mv (.tmp 6)⟩,
    ⟨(some 17), (some (14, false)), .act, .call 73 [(.tmp 15), (.tmp 16)]⟩,
    ⟨(some 18), none, .act, .pick (.tmp 14) (.const (.bool true)) (.tmp 17)⟩,
    ⟨(some 19), none, .act, .call 72 [(.tmp 10), (.tmp 18)]⟩,
    ⟨(some 20), none, .act, .extract (.tmp 19) 0⟩,
    ⟨(some 21), none, .act, .extract (.tmp 19) 1⟩,
    ⟨(some 4), none, .act, .mv (.tmp 20)⟩,
    ⟨(some 5), none, .act, .mv (.tmp 21)⟩])
  .ret)))
theorem res66 : ∃ c, Try.f66.body = some c ∧ resCode Try.prog 22 c = some r66 := ⟨_, rfl, by kernel_rfl⟩
theorem rr66 : resRes Try.prog Try.f66.results.toList = some [.tmp 4, .tmp 5] := by kernel_rfl
theorem sub_spec (a b : Int) (ha : Fits a) (hb : Fits b) (h : AHeap) : ACalls Try.prog 66 [i64 a, i64 b] h (fun x h' => x = okN (a - b) ∧ h' = h) := by
  obtain ⟨c', hc1, hc2⟩ := res66
  refine ACalls.enter Try.func66 hc1 Try.ntmps66 hc2 (Nat.le_of_ble_eq_true rfl) rfl ?_
  have hw := wrap_i64_fits (a - b)
  obtain ⟨k, hk⟩ := wrap_i64_mod (a - b)
  have c1 := same_spec a b ha hb h
  have c2 := same_spec a (IntKind.i64.wrap (a - b)) ha hw h
  cases h1 : decide (a < 0 ↔ b < 0) with
  | true =>
    rw [h1] at c1
    have h1' := of_decide_eq_true h1
    have c3 := kept_spec (IntKind.i64.wrap (a - b)) true h
    rw [okN_of (n := a - b) (decide_eq_true (by omega)).symm (fun hf => by omega)] at c3
    repeat' (first | refine S.nilK ?_ | (refine S.op rfl ?_; first | refine S.arith rfl rfl rfl ?_ | refine R.callQ (by decide) rfl c1 ?_ | refine R.callQ (by decide) rfl c3 ?_ | refine R.mv rfl ?_ | refine R.pickT rfl rfl ?_ | refine R.extract rfl rfl ?_) | refine S.skip rfl ?_ | refine S.seq ?_ | refine S.region ?_)
    apply S.ret rr66
    case hx => repeat (first | exact ResAt.nil | apply ResAt.tmp rfl)
    exact ⟨rfl, rfl⟩
  | false =>
    rw [h1] at c1
    have h1' := of_decide_eq_false h1
    have c3 := kept_spec (IntKind.i64.wrap (a - b)) (decide (a < 0 ↔ IntKind.i64.wrap (a - b) < 0)) h
    rw [okN_of (n := a - b) (decide_eq_decide.2 (by omega)) (fun hf => by omega)] at c3
    repeat' (first | refine S.nilK ?_ | (refine S.op rfl ?_; first | refine S.arith rfl rfl rfl ?_ | refine R.callQ (by decide) rfl c1 ?_ | refine R.callQ (by decide) rfl c2 ?_ | refine R.callQ (by decide) rfl c3 ?_ | refine R.mv rfl ?_ | refine R.pickF rfl rfl ?_ | refine R.extract rfl rfl ?_) | refine S.seq ?_ | refine S.region ?_)
    apply S.ret rr66
    case hx => repeat (first | exact ResAt.nil | apply ResAt.tmp rfl)
    exact ⟨rfl, rfl⟩
def divA (a b : Int) : Int × Bool := if b = 0 then (0, false) else if b = -1 then (if Fits (-a) then -a else 0, decide (Fits (-a))) else (IntKind.i64.wrap (a.tdiv b), true)
def modA (a b : Int) : Int × Bool := if b = 0 then (0, false) else if b = -1 then (0, true) else (a.tmod b, true)
def r68 : RCode :=
  (.seq (.region [
    ⟨(some 4), none, .act, .mv (.const (.int .i64 0))⟩,
    ⟨(some 5), none, .act, .mv (.const (.bool false))⟩])
  (.seq (.seq (.region [
    ⟨(some 6), none, .act, .mv (.tmp 1)⟩])
  (.block 0
   (.seq (.region [
     ⟨(some 8), none, .act, .eq false .int (.tmp 6) (.const (.int .i64 0))⟩,
     ⟨(some 7), none, .act, .mv (.tmp 8)⟩])
   (.cond (.tmp 7)
    (.seq (.region [
      ⟨(some 4), none, .act, .mv (.const (.int .i64 0))⟩,
      ⟨(some 5), none, .act, .mv (.const (.bool false))⟩])
    .ret)
    (.seq (.region [
      ⟨(some 10), none, .act, .eq false .int (.tmp 6) (.const (.int .i64 (-1)))⟩,
      ⟨(some 9), none, .act, .mv (.tmp 10)⟩])
    (.cond (.tmp 9)
     (.seq (.region [
       ⟨(some 11), none, .act, .mv (.tmp 0)⟩,
       ⟨(some 12), none, .act, .call 65 [(.tmp 11)]⟩,
       ⟨(some 13), none, .act, .extract (.tmp 12) 0⟩,
       ⟨(some 14), none, .act, .extract (.tmp 12) 1⟩,
       ⟨(some 4), none, .act, .mv (.tmp 13)⟩,
       ⟨(some 5), none, .act, .mv (.tmp 14)⟩])
     .ret)
     .skip))))))
  (.seq (.region [
    ⟨(some 15), none, .act, .mv (.tmp 0)⟩,
    ⟨(some 16), none, .act, .mv (.tmp 1)⟩,
    ⟨(some 17), none, .act, .bin .quo (.tmp 15) (.tmp 16)⟩,
    ⟨(some 4), none, .act, .mv (.tmp 17)⟩,
    ⟨(some 5), none, .act, .mv (.const (.bool true))⟩])
  .ret)))
theorem res68 : ∃ c, Try.f68.body = some c ∧ resCode Try.prog 18 c = some r68 := ⟨_, rfl, by kernel_rfl⟩
theorem rr68 : resRes Try.prog Try.f68.results.toList = some [.tmp 4, .tmp 5] := by kernel_rfl
theorem div_spec (a b : Int) (ha : Fits a) (hb : Fits b) (h : AHeap) : ACalls Try.prog 68 [i64 a, i64 b] h (fun x h' => x = .tu [i64 (divA a b).1, bl (divA a b).2] ∧ h' = h) := by
  obtain ⟨c', hc1, hc2⟩ := res68
  refine ACalls.enter Try.func68 hc1 Try.ntmps68 hc2 (Nat.le_of_ble_eq_true rfl) rfl ?_
  have c1 := neg_spec a ha h
  unfold okN at c1
  by_cases h0 : b = 0
  ·
    subst h0
    repeat' (first | refine S.nilK ?_ | (refine S.op rfl ?_; first | refine R.mv rfl ?_ | ((first | refine S.eqInt rfl rfl ?_ ?_) <;> intro hlt <;> try (exfalso; omega))) | refine S.seq ?_ | refine S.region ?_ | refine S.condT rfl ?_ | refine RRun.block ?_)
    apply S.ret rr68
    case hx => repeat (first | exact ResAt.nil | apply ResAt.tmp rfl)
    exact ⟨rfl, rfl⟩
  by_cases h1 : b = -1
  ·
    subst h1
    repeat' (first | refine S.nilK ?_ | (refine S.op rfl ?_; first | refine R.callQ (by decide) rfl c1 ?_ | refine R.mv rfl ?_ | refine R.extract rfl rfl ?_ | ((first | refine S.eqInt rfl rfl ?_ ?_) <;> intro hlt <;> try (exfalso; omega))) | refine S.seq ?_ | refine S.region ?_ | refine S.condT rfl ?_ | refine S.condF rfl ?_ | refine RRun.block ?_)
    apply S.ret rr68
    case hx => repeat (first | exact ResAt.nil | apply ResAt.tmp rfl)
    exact ⟨rfl, rfl⟩
  have hq : binInt .quo .i64 a b = some (.int .i64 (IntKind.i64.wrap (a.tdiv b))) := by simp only [binInt, if_neg h0]
  repeat' (first | refine S.nilK ?_ | (refine S.op rfl ?_; first | refine R.bin rfl rfl hq ?_ | refine R.mv rfl ?_ | ((first | refine S.eqInt rfl rfl ?_ ?_) <;> intro hlt <;> try (exfalso; omega))) | refine S.seq ?_ | refine S.region ?_ | refine S.condF rfl ?_ | refine RRun.skip ?_ | refine RRun.block ?_ | refine RRun.inBlock ?_)
  apply S.ret rr68
  case hx => repeat (first | exact ResAt.nil | apply ResAt.tmp rfl)
  exact ⟨by unfold divA; rw [if_neg h0, if_neg h1]; rfl, rfl⟩
def r69 : RCode :=
  (.seq (.region [
    ⟨(some 4), none, .act, .mv (.const (.int .i64 0))⟩,
    ⟨(some 5), none, .act, .mv (.const (.bool false))⟩])
  (.seq (.seq (.region [
    ⟨(some 6), none, .act, .mv (.tmp 1)⟩])
  (.block 0
   (.seq (.region [
     ⟨(some 8), none, .act, .eq false .int (.tmp 6) (.const (.int .i64 0))⟩,
     ⟨(some 7), none, .act, .mv (.tmp 8)⟩])
   (.cond (.tmp 7)
    (.seq (.region [
      ⟨(some 4), none, .act, .mv (.const (.int .i64 0))⟩,
      ⟨(some 5), none, .act, .mv (.const (.bool false))⟩])
    .ret)
    (.seq (.region [
      ⟨(some 10), none, .act, .eq false .int (.tmp 6) (.const (.int .i64 (-1)))⟩,
      ⟨(some 9), none, .act, .mv (.tmp 10)⟩])
    (.cond (.tmp 9)
     (.seq (.region [
       ⟨(some 4), none, .act, .mv (.const (.int .i64 0))⟩,
       ⟨(some 5), none, .act, .mv (.const (.bool true))⟩])
     .ret)
     .skip))))))
  (.seq (.region [
    ⟨(some 11), none, .act, .mv (.tmp 0)⟩,
    ⟨(some 12), none, .act, .mv (.tmp 1)⟩,
    ⟨(some 13), none, .act, .bin .rem (.tmp 11) (.tmp 12)⟩,
    ⟨(some 4), none, .act, .mv (.tmp 13)⟩,
    ⟨(some 5), none, .act, .mv (.const (.bool true))⟩])
  .ret)))
theorem res69 : ∃ c, Try.f69.body = some c ∧ resCode Try.prog 14 c = some r69 := ⟨_, rfl, by kernel_rfl⟩
theorem rr69 : resRes Try.prog Try.f69.results.toList = some [.tmp 4, .tmp 5] := by kernel_rfl
theorem mod_spec (a b : Int) (ha : Fits a) (hb : Fits b) (h : AHeap) : ACalls Try.prog 69 [i64 a, i64 b] h (fun x h' => x = .tu [i64 (modA a b).1, bl (modA a b).2] ∧ h' = h) := by
  obtain ⟨c', hc1, hc2⟩ := res69
  refine ACalls.enter Try.func69 hc1 Try.ntmps69 hc2 (Nat.le_of_ble_eq_true rfl) rfl ?_
  by_cases h0 : b = 0
  ·
    subst h0
    repeat' (first | refine S.nilK ?_ | (refine S.op rfl ?_; first | refine R.mv rfl ?_ | ((first | refine S.eqInt rfl rfl ?_ ?_) <;> intro hlt <;> try (exfalso; omega))) | refine S.seq ?_ | refine S.region ?_ | refine S.condT rfl ?_ | refine RRun.block ?_)
    apply S.ret rr69
    case hx => repeat (first | exact ResAt.nil | apply ResAt.tmp rfl)
    exact ⟨rfl, rfl⟩
  by_cases h1 : b = -1
  ·
    subst h1
    repeat' (first | refine S.nilK ?_ | (refine S.op rfl ?_; first | refine R.mv rfl ?_ | ((first | refine S.eqInt rfl rfl ?_ ?_) <;> intro hlt <;> try (exfalso; omega))) | refine S.seq ?_ | refine S.region ?_ | refine S.condT rfl ?_ | refine S.condF rfl ?_ | refine RRun.block ?_)
    apply S.ret rr69
    case hx => repeat (first | exact ResAt.nil | apply ResAt.tmp rfl)
    exact ⟨rfl, rfl⟩
  have hq : binInt .rem .i64 a b = some (.int .i64 (a.tmod b)) := by simp only [binInt, if_neg h0]
  repeat' (first | refine S.nilK ?_ | (refine S.op rfl ?_; first | refine R.bin rfl rfl hq ?_ | refine R.mv rfl ?_ | ((first | refine S.eqInt rfl rfl ?_ ?_) <;> intro hlt <;> try (exfalso; omega))) | refine S.seq ?_ | refine S.region ?_ | refine S.condF rfl ?_ | refine RRun.skip ?_ | refine RRun.block ?_ | refine RRun.inBlock ?_)
  apply S.ret rr69
  case hx => repeat (first | exact ResAt.nil | apply ResAt.tmp rfl)
  exact ⟨by unfold modA; rw [if_neg h0, if_neg h1]; rfl, rfl⟩
end Go.Proofs.Ythadifboeggnpaa

namespace Go.Proofs.Ythadifboeggnpaa
open Go.Av
structure Val where
  kind : Int
  n : Int
  s : List UInt8
  deriving DecidableEq
def Val.cells (v : Val) : List AV := [i64 v.kind, i64 v.n, str v.s]
abbrev vz : Val := ⟨0, 0, []⟩
def Val.ok (v : Val) : Prop := Fits v.kind ∧ Fits v.n
def cmpI (a b : Int) : Int := if a < b then -1 else if b < a then 1 else 0
def ordV (a b : Val) : Int := if a.kind = b.kind then (if a.kind = 1 then cmpI a.n b.n else if a.kind = 2 then Lib.compareBytes a.s b.s else 0) else cmpI a.kind b.kind
def lessV (a b : Val) : Bool := decide (ordV a b < 0)
def truth (b : Bool) : Val := ⟨1, if b then 1 else 0, []⟩
theorem bl_eq {a b : Bool} (h : a = b) : bl a = bl b := by rw [h]
def r54 : RCode :=
  (.seq (.region [
    ⟨(some 2), none, .act, .mv (.const (.bool false))⟩])
  (.seq (.region [
    ⟨(some 3), none, .act, .mv (.tmp 0)⟩,
    ⟨(some 4), none, .act, .mv (.tmp 0)⟩,
    ⟨(some 5), none, .act, .eq true .int (.tmp 3) (.tmp 4)⟩,
    ⟨(some 2), none, .act, .mv (.tmp 5)⟩])
  .ret))
theorem res54 : ∃ c, Try.f54.body = some c ∧ resCode Try.prog 6 c = some r54 := ⟨_, rfl, by kernel_rfl⟩
theorem rr54 : resRes Try.prog Try.f54.results.toList = some [.tmp 2] := by kernel_rfl
theorem nan_spec (n : Int) (h : AHeap) : ACalls Try.prog 54 [i64 n] h (fun x h' => x = bl false ∧ h' = h) := by
  obtain ⟨c', hc1, hc2⟩ := res54
  refine ACalls.enter Try.func54 hc1 Try.ntmps54 hc2 (Nat.le_of_ble_eq_true rfl) rfl ?_
  repeat' (first | refine S.nilK ?_ | (refine S.op rfl ?_; first | refine S.eqIntSame rfl rfl ?_ | refine R.mv rfl ?_) | refine S.seq ?_ | refine S.region ?_)
  apply S.ret rr54
  case hx => repeat (first | exact ResAt.nil | apply ResAt.tmp rfl)
  exact ⟨rfl, rfl⟩
def r62 : RCode :=
  (.seq (.region [
    ⟨(some 2), none, .act, .mv (.const (.bool false))⟩])
  (.seq (.region [
    ⟨(some 3), none, .act, .mv (.tmp 0)⟩,
    ⟨(some 4), none, .act, .mv (.tmp 0)⟩,
    ⟨(some 5), none, .act, .eq true .int (.tmp 3) (.tmp 4)⟩,
    ⟨(some 2), none, .act, .mv (.tmp 5)⟩])
  .ret))
theorem res62 : ∃ c, Try.f62.body = some c ∧ resCode Try.prog 6 c = some r62 := ⟨_, rfl, by kernel_rfl⟩
theorem rr62 : resRes Try.prog Try.f62.results.toList = some [.tmp 2] := by kernel_rfl
theorem nan64_spec (n : Int) (h : AHeap) : ACalls Try.prog 62 [i64 n] h (fun x h' => x = bl false ∧ h' = h) := by
  obtain ⟨c', hc1, hc2⟩ := res62
  refine ACalls.enter Try.func62 hc1 Try.ntmps62 hc2 (Nat.le_of_ble_eq_true rfl) rfl ?_
  repeat' (first | refine S.nilK ?_ | (refine S.op rfl ?_; first | refine S.eqIntSame rfl rfl ?_ | refine R.mv rfl ?_) | refine S.seq ?_ | refine S.region ?_)
  apply S.ret rr62
  case hx => repeat (first | exact ResAt.nil | apply ResAt.tmp rfl)
  exact ⟨rfl, rfl⟩
def r39 : RCode :=
  (.seq (.region [
    ⟨(some 4), none, .act, .mv (.const (.int .i64 0))⟩])
  (.seq (.region [
    ⟨(some 7), none, .act, .mv (.tmp 0)⟩,
    ⟨(some 8), none, .act, .call 54 [(.tmp 7)]⟩,
    ⟨(some 5), none, .act, .mv (.tmp 8)⟩])
  (.seq (.region [
    ⟨(some 9), none, .act, .mv (.tmp 1)⟩,
    ⟨(some 10), none, .act, .call 54 [(.tmp 9)]⟩,
    ⟨(some 6), none, .act, .mv (.tmp 10)⟩])
  (.seq (.seq (.region [
    ⟨(some 11), none, .act, .mv (.tmp 5)⟩])
  (.cond (.tmp 11)
   (.seq (.seq (.region [
     ⟨(some 12), none, .act, .mv (.tmp 6)⟩])
   (.cond (.tmp 12)
    (.seq (.region [
      ⟨(some 4), none, .act, .mv (.const (.int .i64 0))⟩])
    .ret)
    .skip))
   (.seq (.region [
     ⟨(some 4), none, .act, .mv (.const (.int .i64 (-1)))⟩])
   .ret))
   .skip))
  (.seq (.seq (.region [
    ⟨(some 13), none, .act, .mv (.tmp 6)⟩])
  (.cond (.tmp 13)
   (.seq (.region [
     ⟨(some 4), none, .act, .mv (.const (.int .i64 1))⟩])
   .ret)
   .skip))
  (.seq (.seq (.region [
    ⟨(some 14), none, .act, .mv (.tmp 0)⟩,
    ⟨(some 15), none, .act, .mv (.tmp 1)⟩,
    ⟨(some 16), none, .act, .bin .lss (.tmp 14) (.tmp 15)⟩])
  (.cond (.tmp 16)
   (.seq (.region [
     ⟨(some 4), none, .act, .mv (.const (.int .i64 (-1)))⟩])
   .ret)
   .skip))
  (.seq (.seq (.region [
    ⟨(some 17), none, .act, .mv (.tmp 0)⟩,
    ⟨(some 18), none, .act, .mv (.tmp 1)⟩,
    ⟨(some 19), none, .act, .bin .gtr (.tmp 17) (.tmp 18)⟩])
  (.cond (.tmp 19)
   (.seq (.region [
     ⟨(some 4), none, .act, .mv (.const (.int .i64 1))⟩])
   .ret)
   .skip))
  (.seq (.region [
    ⟨(some 4), none, .act, .mv (.const (.int .i64 0))⟩])
  .ret))))))))
theorem res39 : ∃ c, Try.f39.body = some c ∧ resCode Try.prog 20 c = some r39 := ⟨_, rfl, by kernel_rfl⟩
theorem rr39 : resRes Try.prog Try.f39.results.toList = some [.tmp 4] := by kernel_rfl
theorem cmpInt_spec (a b : Int) (h : AHeap) : ACalls Try.prog 39 [i64 a, i64 b] h (fun x h' => x = i64 (cmpI a b) ∧ h' = h) := by
  obtain ⟨c', hc1, hc2⟩ := res39
  refine ACalls.enter Try.func39 hc1 Try.ntmps39 hc2 (Nat.le_of_ble_eq_true rfl) rfl ?_
  repeat' (first | refine S.nilK ?_ | (refine S.op rfl ?_; first | refine callS rfl rfl (nan_spec _ _) ?_ | refine R.mv rfl ?_ | ((first | refine S.lss rfl rfl ?_ ?_ | refine S.gtr rfl rfl ?_ ?_) <;> intro hlt <;> try (exfalso; omega))) | refine S.seq ?_ | refine S.region ?_ | refine S.condT rfl ?_ | refine S.condF rfl ?_ | refine RRun.skip ?_)
  all_goals
    apply S.ret rr39
    case hx => repeat (first | exact ResAt.nil | apply ResAt.tmp rfl)
    exact ⟨congrArg i64 (Eq.symm (by unfold cmpI; repeat' (first | rfl | refine (if_pos (by omega)).trans ?_ | refine (if_neg (by omega)).trans ?_))), rfl⟩
def r52 : RCode :=
  (.seq (.region [
    ⟨(some 4), none, .act, .mv (.const (.int .i64 0))⟩])
  (.seq (.region [
    ⟨(some 7), none, .act, .mv (.tmp 0)⟩,
    ⟨(some 8), none, .act, .call 62 [(.tmp 7)]⟩,
    ⟨(some 5), none, .act, .mv (.tmp 8)⟩])
  (.seq (.region [
    ⟨(some 9), none, .act, .mv (.tmp 1)⟩,
    ⟨(some 10), none, .act, .call 62 [(.tmp 9)]⟩,
    ⟨(some 6), none, .act, .mv (.tmp 10)⟩])
  (.seq (.seq (.region [
    ⟨(some 11), none, .act, .mv (.tmp 5)⟩])
  (.cond (.tmp 11)
   (.seq (.seq (.region [
     ⟨(some 12), none, .act, .mv (.tmp 6)⟩])
   (.cond (.tmp 12)
    (.seq (.region [
      ⟨(some 4), none, .act, .mv (.const (.int .i64 0))⟩])
    .ret)
    .skip))
   (.seq (.region [
     ⟨(some 4), none, .act, .mv (.const (.int .i64 (-1)))⟩])
   .ret))
   .skip))
  (.seq (.seq (.region [
    ⟨(some 13), none, .act, .mv (.tmp 6)⟩])
  (.cond (.tmp 13)
   (.seq (.region [
     ⟨(some 4), none, .act, .mv (.const (.int .i64 1))⟩])
   .ret)
   .skip))
  (.seq (.seq (.region [
    ⟨(some 14), none, .act, .mv (.tmp 0)⟩,
    ⟨(some 15), none, .act, .mv (.tmp 1)⟩,
    ⟨(some 16), none, .act, .bin .lss (.tmp 14) (.tmp 15)⟩])
  (.cond (.tmp 16)
   (.seq (.region [
     ⟨(some 4), none, .act, .mv (.const (.int .i64 (-1)))⟩])
   .ret)
   .skip))
  (.seq (.seq (.region [
    ⟨(some 17), none, .act, .mv (.tmp 0)⟩,
    ⟨(some 18), none, .act, .mv (.tmp 1)⟩,
    ⟨(some 19), none, .act, .bin .gtr (.tmp 17) (.tmp 18)⟩])
  (.cond (.tmp 19)
   (.seq (.region [
     ⟨(some 4), none, .act, .mv (.const (.int .i64 1))⟩])
   .ret)
   .skip))
  (.seq (.region [
    ⟨(some 4), none, .act, .mv (.const (.int .i64 0))⟩])
  .ret))))))))
theorem res52 : ∃ c, Try.f52.body = some c ∧ resCode Try.prog 20 c = some r52 := ⟨_, rfl, by kernel_rfl⟩
theorem rr52 : resRes Try.prog Try.f52.results.toList = some [.tmp 4] := by kernel_rfl
theorem cmpInt64_spec (a b : Int) (h : AHeap) : ACalls Try.prog 52 [i64 a, i64 b] h (fun x h' => x = i64 (cmpI a b) ∧ h' = h) := by
  obtain ⟨c', hc1, hc2⟩ := res52
  refine ACalls.enter Try.func52 hc1 Try.ntmps52 hc2 (Nat.le_of_ble_eq_true rfl) rfl ?_
  repeat' (first | refine S.nilK ?_ | (refine S.op rfl ?_; first | refine callS rfl rfl (nan64_spec _ _) ?_ | refine R.mv rfl ?_ | ((first | refine S.lss rfl rfl ?_ ?_ | refine S.gtr rfl rfl ?_ ?_) <;> intro hlt <;> try (exfalso; omega))) | refine S.seq ?_ | refine S.region ?_ | refine S.condT rfl ?_ | refine S.condF rfl ?_ | refine RRun.skip ?_)
  all_goals
    apply S.ret rr52
    case hx => repeat (first | exact ResAt.nil | apply ResAt.tmp rfl)
    exact ⟨congrArg i64 (Eq.symm (by unfold cmpI; repeat' (first | rfl | refine (if_pos (by omega)).trans ?_ | refine (if_neg (by omega)).trans ?_))), rfl⟩
def r63 : RCode :=
  (.seq (.region [
    ⟨(some 4), none, .act, .mv (.const (.int .i64 0))⟩])
  (.seq (.region [
    ⟨(some 5), none, .act, .mv (.tmp 0)⟩,
    ⟨(some 6), none, .act, .mv (.tmp 1)⟩,
    ⟨(some 7), none, .act, .cmpStr (.tmp 5) (.tmp 6)⟩,
    ⟨(some 4), none, .act, .mv (.tmp 7)⟩])
  .ret))
theorem res63 : ∃ c, Try.f63.body = some c ∧ resCode Try.prog 8 c = some r63 := ⟨_, rfl, by kernel_rfl⟩
theorem rr63 : resRes Try.prog Try.f63.results.toList = some [.tmp 4] := by kernel_rfl
theorem cmpStr_spec (a b : List UInt8) (h : AHeap) : ACalls Try.prog 63 [str a, str b] h (fun x h' => x = i64 (Lib.compareBytes a b) ∧ h' = h) := by
  obtain ⟨c', hc1, hc2⟩ := res63
  refine ACalls.enter Try.func63 hc1 Try.ntmps63 hc2 (Nat.le_of_ble_eq_true rfl) rfl ?_
  repeat' (first | refine S.nilK ?_ | (refine S.op rfl ?_; first | refine R.cmpStr rfl rfl ?_ | refine R.mv rfl ?_) | refine S.seq ?_ | refine S.region ?_)
  apply S.ret rr63
  case hx => repeat (first | exact ResAt.nil | apply ResAt.tmp rfl)
  exact ⟨by simp [packAV], rfl⟩
def r53 : RCode :=
  (.seq (.region [
    ⟨(some 4), none, .act, .mv (.const (.int .i64 0))⟩])
  (.seq (.region [
    ⟨(some 5), none, .act, .mv (.tmp 0)⟩,
    ⟨(some 6), none, .act, .mv (.tmp 1)⟩,
    ⟨(some 7), none, .act, .call 63 [(.tmp 5), (.tmp 6)]⟩,
    ⟨(some 4), none, .act, .mv (.tmp 7)⟩])
  .ret))
theorem res53 : ∃ c, Try.f53.body = some c ∧ resCode Try.prog 8 c = some r53 := ⟨_, rfl, by kernel_rfl⟩
theorem rr53 : resRes Try.prog Try.f53.results.toList = some [.tmp 4] := by kernel_rfl
theorem strCmp_spec (a b : List UInt8) (h : AHeap) : ACalls Try.prog 53 [str a, str b] h (fun x h' => x = i64 (Lib.compareBytes a b) ∧ h' = h) := by
  obtain ⟨c', hc1, hc2⟩ := res53
  refine ACalls.enter Try.func53 hc1 Try.ntmps53 hc2 (Nat.le_of_ble_eq_true rfl) rfl ?_
  repeat' (first | refine S.nilK ?_ | (refine S.op rfl ?_; first | refine callS rfl rfl (cmpStr_spec _ _ _) ?_ | refine R.mv rfl ?_) | refine S.seq ?_ | refine S.region ?_)
  apply S.ret rr53
  case hx => repeat (first | exact ResAt.nil | apply ResAt.tmp rfl)
  exact ⟨rfl, rfl⟩
def r38 : RCode :=
  (.seq (.region [
    ⟨(some 2), none, .act, .box (.tmp 0)⟩,
    ⟨(some 3), none, .act, .box (.tmp 1)⟩,
    ⟨(some 4), none, .act, .mv (.const (.int .i64 0))⟩])
  (.seq (.seq (.region [
    ⟨(some 5), none, .act, .fieldAddr 0 (.tmp 2)⟩,
    ⟨(some 6), none, .act, .load false 1 (.tmp 5)⟩,
    ⟨(some 7), none, .act, .fieldAddr 0 (.tmp 3)⟩,
    ⟨(some 8), none, .act, .load false 1 (.tmp 7)⟩,
    ⟨(some 9), none, .act, .eq true .int (.tmp 6) (.tmp 8)⟩])
  (.cond (.tmp 9)
   (.seq (.region [
     ⟨(some 10), none, .act, .fieldAddr 0 (.tmp 2)⟩,
     ⟨(some 11), none, .act, .load false 1 (.tmp 10)⟩,
     ⟨(some 12), none, .act, .fieldAddr 0 (.tmp 3)⟩,
     ⟨(some 13), none, .act, .load false 1 (.tmp 12)⟩,
     ⟨(some 14), none, .act, .call 39 [(.tmp 11), (.tmp 13)]⟩,
     ⟨(some 4), none, .act, .mv (.tmp 14)⟩])
   .ret)
   .skip))
  (.seq (.seq (.region [
    ⟨(some 15), none, .act, .fieldAddr 0 (.tmp 2)⟩,
    ⟨(some 16), none, .act, .load false 1 (.tmp 15)⟩])
  (.block 0
   (.seq (.region [
     ⟨(some 18), none, .act, .eq false .int (.tmp 16) (.const (.int .i64 1))⟩,
     ⟨(some 17), none, .act, .mv (.tmp 18)⟩])
   (.cond (.tmp 17)
    (.seq (.region [
      ⟨(some 19), none, .act, .fieldAddr 1 (.tmp 2)⟩,
      ⟨(some 20), none, .act, .load false 1 (.tmp 19)⟩,
      ⟨(some 21), none, .act, .fieldAddr 1 (.tmp 3)⟩,
      ⟨(some 22), none, .act, .load false 1 (.tmp 21)⟩,
      ⟨(some 23), none, .act, .call 52 [(.tmp 20), (.tmp 22)]⟩,
      ⟨(some 4), none, .act, .mv (.tmp 23)⟩])
    .ret)
    (.seq (.region [
      ⟨(some 25), none, .act, .eq false .int (.tmp 16) (.const (.int .i64 2))⟩,
      ⟨(some 24), none, .act, .mv (.tmp 25)⟩])
    (.cond (.tmp 24)
     (.seq (.region [
       ⟨(some 26), none, .act, .fieldAddr 2 (.tmp 2)⟩,
       ⟨(some 27), none, .act, .load false 1 (.tmp 26)⟩,
       ⟨(some 28), none, .act, .fieldAddr 2 (.tmp 3)⟩,
       ⟨(some 29), none, .act, .load false 1 (.tmp 28)⟩,
       ⟨(some 30), none, .act, .call 53 [(.tmp 27), (.tmp 29)]⟩,
       ⟨(some 4), none, .act, .mv (.tmp 30)⟩])
     .ret)
     .skip))))))
  (.seq (.region [
    ⟨(some 4), none, .act, .mv (.const (.int .i64 0))⟩])
  .ret))))
theorem res38 : ∃ c, Try.f38.body = some c ∧ resCode Try.prog 31 c = some r38 := ⟨_, rfl, by kernel_rfl⟩
theorem rr38 : resRes Try.prog Try.f38.results.toList = some [.tmp 4] := by kernel_rfl
theorem order_spec (a b : Val) (h : AHeap) : ACalls Try.prog 38 [.ag a.cells, .ag b.cells] h (fun x h' => x = i64 (ordV a b) ∧ h' = h) := by
  obtain ⟨c', hc1, hc2⟩ := res38
  refine ACalls.weak (ACalls.enter Try.func38 hc1 Try.ntmps38 hc2 (Nat.le_of_ble_eq_true rfl) rfl ?_)
  obtain ⟨ak, an, sa⟩ := a
  obtain ⟨bk, bn, bs⟩ := b
  rw [show Val.cells ⟨ak, an, sa⟩ = [i64 ak, i64 an, str sa] from rfl, show Val.cells ⟨bk, bn, bs⟩ = [i64 bk, i64 bn, str bs] from rfl]
  repeat' (first | refine S.nilK ?_ | (refine S.op rfl ?_; first | refine callS rfl rfl (cmpInt_spec _ _ _) ?_ | refine callS rfl rfl (cmpInt64_spec _ _ _) ?_ | refine callS rfl rfl (strCmp_spec _ _ _) ?_ | refine R.mv rfl ?_ | refine R.fieldAddr rfl ?_ | refine R.load (by decide) rfl (by (repeat' (first | exact AHeap.set_same _ _ _ | refine AHeap.get_fresh ‹_› ?_)); first | done | fail) rfl ?_ | refine R.box rfl rfl rfl (fun b hb => ?_) | ((first | refine S.eqInt rfl rfl ?_ ?_) <;> intro hlt <;> try (exfalso; omega))) | refine S.seq ?_ | refine S.region ?_ | refine S.condT rfl ?_ | refine S.condF rfl ?_ | refine RRun.skip ?_ | refine RRun.block ?_ | refine RRun.inBlock ?_)
  all_goals
    apply S.ret rr38
    case hx => repeat (first | exact ResAt.nil | apply ResAt.tmp rfl)
    exact ⟨_, h, .refl _, (by repeat (first | exact AHeap.le.refl _ | refine AHeap.le.set ?_ _ (by (repeat' (first | assumption | exact AHeap.z1 ‹_›)); first | done | fail))), congrArg i64 (Eq.symm (by unfold ordV; simp only; repeat' (first | rfl | refine (if_pos (by omega)).trans ?_ | refine (if_neg (by omega)).trans ?_))), rfl⟩
def r58 : RCode :=
  (.seq (.region [
    ⟨(some 2), none, .act, .box (.tmp 0)⟩,
    ⟨(some 3), none, .act, .box (.tmp 1)⟩,
    ⟨(some 4), none, .act, .mv (.const (.bool false))⟩])
  (.seq (.region [
    ⟨(some 5), none, .act, .load true 3 (.tmp 2)⟩,
    ⟨(some 6), none, .act, .load true 3 (.tmp 3)⟩,
    ⟨(some 7), none, .act, .call 38 [(.tmp 5), (.tmp 6)]⟩,
    ⟨(some 8), none, .act, .bin .lss (.tmp 7) (.const (.int .i64 0))⟩,
    ⟨(some 4), none, .act, .mv (.tmp 8)⟩])
  .ret))
theorem res58 : ∃ c, Try.f58.body = some c ∧ resCode Try.prog 9 c = some r58 := ⟨_, rfl, by kernel_rfl⟩
theorem rr58 : resRes Try.prog Try.f58.results.toList = some [.tmp 4] := by kernel_rfl
theorem less_spec (a b : Val) (h : AHeap) : ACalls Try.prog 58 [.ag a.cells, .ag b.cells] h (fun x h' => x = bl (lessV a b) ∧ h' = h) := by
  obtain ⟨c', hc1, hc2⟩ := res58
  refine ACalls.weak (ACalls.enter Try.func58 hc1 Try.ntmps58 hc2 (Nat.le_of_ble_eq_true rfl) rfl ?_)
  have c38 := fun h => order_spec a b h
  obtain ⟨ak, an, sa⟩ := a
  obtain ⟨bk, bn, bs⟩ := b
  rw [show Val.cells ⟨ak, an, sa⟩ = [i64 ak, i64 an, str sa] from rfl, show Val.cells ⟨bk, bn, bs⟩ = [i64 bk, i64 bn, str bs] from rfl] at c38 ⊢
  repeat' (first | refine S.nilK ?_ | (refine S.op rfl ?_; first | refine callS rfl rfl (c38 _) ?_ | refine R.mv rfl ?_ | refine R.load (by decide) rfl (by (repeat' (first | exact AHeap.set_same _ _ _ | refine AHeap.get_fresh ‹_› ?_)); first | done | fail) rfl ?_ | refine R.box rfl rfl rfl (fun b hb => ?_) | ((first | refine S.lss rfl rfl ?_ ?_) <;> intro hlt <;> try (exfalso; omega))) | refine S.seq ?_ | refine S.region ?_)
  all_goals
    apply S.ret rr58
    case hx => repeat (first | exact ResAt.nil | apply ResAt.tmp rfl)
    exact ⟨_, h, .refl _, (by repeat (first | exact AHeap.le.refl _ | refine AHeap.le.set ?_ _ (by (repeat' (first | assumption | exact AHeap.z1 ‹_›)); first | done | fail))), bl_eq (by unfold lessV; first | exact (decide_eq_true (by omega)).symm | exact (decide_eq_false (by omega)).symm), rfl⟩
def parts (op : Int) : Int :=
  if op = 1 ∨ op = 2 ∨ op = 3 ∨ op = 20 then 0 else if op = 4 ∨ op = 16 ∨ op = 19 ∨ (21 ≤ op ∧ op ≤ 23) then 1 else if 5 ≤ op ∧ op ≤ 18 then 2 else -1
def sums (op : Int) : Bool := decide (20 ≤ op ∧ op ≤ 23)
def compares (op : Int) : Bool := decide (10 ≤ op ∧ op ≤ 15)
def whole (v : Val) : Val := if v.kind = 1 then v else vz
def r43 : RCode :=
  (.seq (.region [
    ⟨(some 2), none, .act, .mv (.const (.int .i64 0))⟩])
  (.seq (.block 0
   (.seq (.seq (.region [
     ⟨(some 4), none, .act, .mv (.tmp 0)⟩,
     ⟨(some 5), none, .act, .eq false .int (.tmp 4) (.const (.int .i64 1))⟩,
     ⟨(some 3), none, .act, .mv (.tmp 5)⟩])
   (.cond (.tmp 3)
    .skip
    (.seq (.region [
      ⟨(some 6), none, .act, .mv (.tmp 0)⟩,
      ⟨(some 7), none, .act, .eq false .int (.tmp 6) (.const (.int .i64 2))⟩,
      ⟨(some 3), none, .act, .mv (.tmp 7)⟩])
    (.cond (.tmp 3)
     .skip
     (.seq (.region [
       ⟨(some 8), none, .act, .mv (.tmp 0)⟩,
       ⟨(some 9), none, .act, .eq false .int (.tmp 8) (.const (.int .i64 3))⟩,
       ⟨(some 3), none, .act, .mv (.tmp 9)⟩])
     (.cond (.tmp 3)
      .skip
      (.region [
        ⟨(some 10), none, .act, .mv (.tmp 0)⟩,
        ⟨(some 11), none, .act, .eq false .int (.tmp 10) (.const (.int .i64 20))⟩,
        ⟨(some 3), none, .act, .mv (.tmp 11)⟩])))))))
   (.cond (.tmp 3)
    (.seq (.region [
      ⟨(some 2), none, .act, .mv (.const (.int .i64 0))⟩])
    .ret)
    (.seq (.seq (.region [
      ⟨(some 13), none, .act, .mv (.tmp 0)⟩,
      ⟨(some 14), none, .act, .eq false .int (.tmp 13) (.const (.int .i64 4))⟩,
      ⟨(some 12), none, .act, .mv (.tmp 14)⟩])
    (.cond (.tmp 12)
     .skip
     (.seq (.region [
       ⟨(some 15), none, .act, .mv (.tmp 0)⟩,
       ⟨(some 16), none, .act, .eq false .int (.tmp 15) (.const (.int .i64 16))⟩,
       ⟨(some 12), none, .act, .mv (.tmp 16)⟩])
     (.cond (.tmp 12)
      .skip
      (.seq (.region [
        ⟨(some 17), none, .act, .mv (.tmp 0)⟩,
        ⟨(some 18), none, .act, .eq false .int (.tmp 17) (.const (.int .i64 19))⟩,
        ⟨(some 12), none, .act, .mv (.tmp 18)⟩])
      (.cond (.tmp 12)
       .skip
       (.region [
         ⟨(some 19), none, .act, .mv (.tmp 0)⟩,
         ⟨(some 20), none, .act, .bin .geq (.tmp 19) (.const (.int .i64 21))⟩,
         ⟨(some 21), none, .act, .mv (.tmp 20)⟩,
         ⟨(some 22), (some (21, true)), .act, .mv (.tmp 0)⟩,
         ⟨(some 23), (some (21, true)), .act, .bin .leq (.tmp 22) (.const (.int .i64 23))⟩,
         ⟨(some 24), none, .act, .pick (.tmp 21) (.tmp 23) (.const (.bool false))⟩,
         ⟨(some 12), none, .act, .mv (.tmp 24)⟩])))))))
    (.cond (.tmp 12)
     (.seq (.region [
       ⟨(some 2), none, .act, .mv (.const (.int .i64 1))⟩])
     .ret)
     (.seq (.region [
       ⟨(some 26), none, .act, .mv (.tmp 0)⟩,
       ⟨(some 27), none, .act, .bin .geq (.tmp 26) (.const (.int .i64 5))⟩,
       ⟨(some 28), none, .act, .mv (.tmp 27)⟩,
       ⟨(some 29), (some (28, true)), .act, .mv (.tmp 0)⟩,
       ⟨(some 30), (some (28, true)), .act, .bin .leq (.tmp 29) (.const (.int .i64 18))⟩,
       ⟨(some 31), none, .act, .pick (.tmp 28) (.tmp 30) (.const (.bool false))⟩,
       ⟨(some 25), none, .act, .mv (.tmp 31)⟩])
     (.cond (.tmp 25)
      (.seq (.region [
        ⟨(some 2), none, .act, .mv (.const (.int .i64 2))⟩])
      .ret)
      .skip)))))))
  (.seq (.region [
    ⟨(some 2), none, .act, .mv (.const (.int .i64 (-1)))⟩])
  .ret)))
theorem res43 : ∃ c, Try.f43.body = some c ∧ resCode Try.prog 32 c = some r43 := ⟨_, rfl, by kernel_rfl⟩
theorem rr43 : resRes Try.prog Try.f43.results.toList = some [.tmp 2] := by kernel_rfl
theorem parts_spec (op : Int) (h : AHeap) : ACalls Try.prog 43 [i64 op] h (fun x h' => x = i64 (parts op) ∧ h' = h) := by
  obtain ⟨c', hc1, hc2⟩ := res43
  refine ACalls.enter Try.func43 hc1 Try.ntmps43 hc2 (Nat.le_of_ble_eq_true rfl) rfl ?_
  repeat' (first | refine S.nilK ?_ | (refine S.op rfl ?_; first | refine R.mv rfl ?_ | refine R.pickT rfl rfl ?_ | refine R.pickF rfl rfl ?_ | ((first | refine S.leq rfl rfl ?_ ?_ | refine S.geq rfl rfl ?_ ?_ | refine S.eqInt rfl rfl ?_ ?_) <;> intro hlt <;> try (exfalso; omega))) | refine S.skip rfl ?_ | refine S.seq ?_ | refine S.region ?_ | refine S.condT rfl ?_ | refine S.condF rfl ?_ | refine RRun.skip ?_ | refine RRun.block ?_ | refine RRun.inBlock ?_)
  all_goals
    apply S.ret rr43
    case hx => repeat (first | exact ResAt.nil | apply ResAt.tmp rfl)
    exact ⟨congrArg i64 (Eq.symm (by unfold parts; repeat' (first | rfl | refine (if_pos (by omega)).trans ?_ | refine (if_neg (by omega)).trans ?_))), rfl⟩
def r44 : RCode :=
  (.seq (.region [
    ⟨(some 2), none, .act, .mv (.const (.bool false))⟩])
  (.seq (.region [
    ⟨(some 3), none, .act, .mv (.tmp 0)⟩,
    ⟨(some 4), none, .act, .bin .geq (.tmp 3) (.const (.int .i64 20))⟩,
    ⟨(some 5), none, .act, .mv (.tmp 4)⟩,
    ⟨(some 6), (some (5, true)), .act, .mv (.tmp 0)⟩,
    ⟨(some 7), (some (5, true)), .act, .bin .leq (.tmp 6) (.const (.int .i64 23))⟩,
    ⟨(some 8), none, .act, .pick (.tmp 5) (.tmp 7) (.const (.bool false))⟩,
    ⟨(some 2), none, .act, .mv (.tmp 8)⟩])
  .ret))
theorem res44 : ∃ c, Try.f44.body = some c ∧ resCode Try.prog 9 c = some r44 := ⟨_, rfl, by kernel_rfl⟩
theorem rr44 : resRes Try.prog Try.f44.results.toList = some [.tmp 2] := by kernel_rfl
theorem sums_spec (op : Int) (h : AHeap) : ACalls Try.prog 44 [i64 op] h (fun x h' => x = bl (sums op) ∧ h' = h) := by
  obtain ⟨c', hc1, hc2⟩ := res44
  refine ACalls.enter Try.func44 hc1 Try.ntmps44 hc2 (Nat.le_of_ble_eq_true rfl) rfl ?_
  repeat' (first | refine S.nilK ?_ | (refine S.op rfl ?_; first | refine R.mv rfl ?_ | refine R.pickT rfl rfl ?_ | refine R.pickF rfl rfl ?_ | ((first | refine S.leq rfl rfl ?_ ?_ | refine S.geq rfl rfl ?_ ?_) <;> intro hlt <;> try (exfalso; omega))) | refine S.skip rfl ?_ | refine S.seq ?_ | refine S.region ?_)
  all_goals
    apply S.ret rr44
    case hx => repeat (first | exact ResAt.nil | apply ResAt.tmp rfl)
    exact ⟨bl_eq (by unfold sums; first | exact (decide_eq_true (by omega)).symm | exact (decide_eq_false (by omega)).symm), rfl⟩
def r46 : RCode :=
  (.seq (.region [
    ⟨(some 2), none, .act, .mv (.const (.bool false))⟩])
  (.seq (.region [
    ⟨(some 3), none, .act, .mv (.tmp 0)⟩,
    ⟨(some 4), none, .act, .bin .geq (.tmp 3) (.const (.int .i64 10))⟩,
    ⟨(some 5), none, .act, .mv (.tmp 4)⟩,
    ⟨(some 6), (some (5, true)), .act, .mv (.tmp 0)⟩,
    ⟨(some 7), (some (5, true)), .act, .bin .leq (.tmp 6) (.const (.int .i64 15))⟩,
    ⟨(some 8), none, .act, .pick (.tmp 5) (.tmp 7) (.const (.bool false))⟩,
    ⟨(some 2), none, .act, .mv (.tmp 8)⟩])
  .ret))
theorem res46 : ∃ c, Try.f46.body = some c ∧ resCode Try.prog 9 c = some r46 := ⟨_, rfl, by kernel_rfl⟩
theorem rr46 : resRes Try.prog Try.f46.results.toList = some [.tmp 2] := by kernel_rfl
theorem compares_spec (op : Int) (h : AHeap) : ACalls Try.prog 46 [i64 op] h (fun x h' => x = bl (compares op) ∧ h' = h) := by
  obtain ⟨c', hc1, hc2⟩ := res46
  refine ACalls.enter Try.func46 hc1 Try.ntmps46 hc2 (Nat.le_of_ble_eq_true rfl) rfl ?_
  repeat' (first | refine S.nilK ?_ | (refine S.op rfl ?_; first | refine R.mv rfl ?_ | refine R.pickT rfl rfl ?_ | refine R.pickF rfl rfl ?_ | ((first | refine S.leq rfl rfl ?_ ?_ | refine S.geq rfl rfl ?_ ?_) <;> intro hlt <;> try (exfalso; omega))) | refine S.skip rfl ?_ | refine S.seq ?_ | refine S.region ?_)
  all_goals
    apply S.ret rr46
    case hx => repeat (first | exact ResAt.nil | apply ResAt.tmp rfl)
    exact ⟨bl_eq (by unfold compares; first | exact (decide_eq_true (by omega)).symm | exact (decide_eq_false (by omega)).symm), rfl⟩
def r45 : RCode :=
  (.seq (.region [
    ⟨(some 2), none, .act, .alloc [(.int .i64 0), (.int .i64 0), (.string ⟨#[]⟩)]⟩])
  (.seq (.region [
    ⟨(some 4), none, .act, .build [(.int .i64 0), (.int .i64 0), (.string ⟨#[]⟩)] [(0, 1, (.const (.int .i64 1)))]⟩,
    ⟨(some 3), none, .act, .alloc [(.int .i64 0), (.int .i64 0), (.string ⟨#[]⟩)]⟩,
    ⟨none, none, .act, .store 3 (.tmp 3) (.tmp 4)⟩])
  (.seq (.seq (.region [
    ⟨(some 5), none, .act, .mv (.tmp 0)⟩])
  (.cond (.tmp 5)
   (.region [
     ⟨(some 6), none, .act, .fieldAddr 1 (.tmp 3)⟩,
     ⟨none, none, .act, .store 1 (.tmp 6) (.const (.int .i64 1))⟩])
   .skip))
  (.seq (.region [
    ⟨(some 7), none, .act, .load true 3 (.tmp 3)⟩,
    ⟨none, none, .act, .store 3 (.tmp 2) (.tmp 7)⟩])
  .ret))))
theorem res45 : ∃ c, Try.f45.body = some c ∧ resCode Try.prog 8 c = some r45 := ⟨_, rfl, by kernel_rfl⟩
theorem rr45 : resRes Try.prog Try.f45.results.toList = some [.cell 2 true 3] := by kernel_rfl
theorem truth_spec (b : Bool) (h : AHeap) : ACalls Try.prog 45 [bl b] h (fun x h' => x = .ag (truth b).cells ∧ h' = h) := by
  obtain ⟨c', hc1, hc2⟩ := res45
  refine ACalls.weak (ACalls.enter Try.func45 hc1 Try.ntmps45 hc2 (Nat.le_of_ble_eq_true rfl) rfl ?_)
  cases b
  all_goals
    repeat' (first | refine S.nilK ?_ | (refine S.op rfl ?_; first | refine R.mv rfl ?_ | refine R.fieldAddr rfl ?_ | refine R.load (by decide) rfl (by (repeat' (first | exact AHeap.set_same _ _ _)); first | done | fail) rfl ?_ | refine R.alloc rfl (fun b hb => ?_) | refine R.build rfl rfl ?_) | (refine S.op0 rfl ?_; first | refine S.storeS rfl rfl rfl (by rfl) rfl (by first | decide | exact Nat.le_refl _ | exact Nat.le_of_ble_eq_true rfl) ?_ | refine S.store rfl rfl (by (repeat' (first | exact AHeap.set_same _ _ _ | refine AHeap.get_fresh ‹_› ?_)); first | done | fail) rfl rfl rfl (by rfl) rfl ?_) | refine S.seq ?_ | refine S.region ?_ | refine S.condT rfl ?_ | refine S.condF rfl ?_ | refine RRun.skip ?_)
    apply S.ret rr45
    case hx => repeat (first | exact ResAt.nil | apply ResAt.cellA rfl (by (repeat' (first | exact AHeap.set_same _ _ _)); first | done | fail) (by rfl))
    exact ⟨_, h, .refl _, (by repeat (first | exact AHeap.le.refl _ | refine AHeap.le.set ?_ _ (by (repeat' (first | assumption | exact AHeap.z1 ‹_›)); first | done | fail))), rfl, rfl⟩
def r49 : RCode :=
  (.seq (.region [
    ⟨(some 1), none, .act, .box (.tmp 0)⟩,
    ⟨(some 2), none, .act, .alloc [(.int .i64 0), (.int .i64 0), (.string ⟨#[]⟩)]⟩])
  (.seq (.seq (.region [
    ⟨(some 3), none, .act, .fieldAddr 0 (.tmp 1)⟩,
    ⟨(some 4), none, .act, .load false 1 (.tmp 3)⟩,
    ⟨(some 5), none, .act, .eq true .int (.tmp 4) (.const (.int .i64 1))⟩])
  (.cond (.tmp 5)
   (.seq (.region [
     ⟨(some 6), none, .act, .build [(.int .i64 0), (.int .i64 0), (.string ⟨#[]⟩)] []⟩,
     ⟨none, none, .act, .store 3 (.tmp 2) (.tmp 6)⟩])
   .ret)
   .skip))
  (.seq (.region [
    ⟨(some 7), none, .act, .load true 3 (.tmp 1)⟩,
    ⟨none, none, .act, .store 3 (.tmp 2) (.tmp 7)⟩])
  .ret)))
theorem res49 : ∃ c, Try.f49.body = some c ∧ resCode Try.prog 8 c = some r49 := ⟨_, rfl, by kernel_rfl⟩
theorem rr49 : resRes Try.prog Try.f49.results.toList = some [.cell 2 true 3] := by kernel_rfl
theorem whole_spec (v : Val) (h : AHeap) : ACalls Try.prog 49 [.ag v.cells] h (fun x h' => x = .ag (whole v).cells ∧ h' = h) := by
  obtain ⟨c', hc1, hc2⟩ := res49
  refine ACalls.weak (ACalls.enter Try.func49 hc1 Try.ntmps49 hc2 (Nat.le_of_ble_eq_true rfl) rfl ?_)
  obtain ⟨ak, an, sa⟩ := v
  rw [show Val.cells ⟨ak, an, sa⟩ = [i64 ak, i64 an, str sa] from rfl]
  repeat' (first | refine S.nilK ?_ | (refine S.op rfl ?_; first | refine R.fieldAddr rfl ?_ | refine R.load (by decide) rfl (by (repeat' (first | exact AHeap.set_same _ _ _ | refine AHeap.get_fresh ‹_› ?_)); first | done | fail) rfl ?_ | refine R.alloc rfl (fun b hb => ?_) | refine R.box rfl rfl rfl (fun b hb => ?_) | refine R.build rfl rfl ?_ | ((first | refine S.eqInt rfl rfl ?_ ?_) <;> intro hlt <;> try (exfalso; omega))) | (refine S.op0 rfl ?_; first | refine S.storeS rfl rfl rfl (by rfl) rfl (by first | decide | exact Nat.le_refl _ | exact Nat.le_of_ble_eq_true rfl) ?_) | refine S.seq ?_ | refine S.region ?_ | refine S.condT rfl ?_ | refine S.condF rfl ?_ | refine RRun.skip ?_)
  all_goals
    apply S.ret rr49
    case hx => repeat (first | exact ResAt.nil | apply ResAt.cellA rfl (by (repeat' (first | exact AHeap.set_same _ _ _)); first | done | fail) (by rfl))
    exact ⟨_, h, .refl _, (by repeat (first | exact AHeap.le.refl _ | refine AHeap.le.set ?_ _ (by (repeat' (first | assumption | exact AHeap.z1 ‹_›)); first | done | fail))), by first | (rw [show whole ⟨ak, an, sa⟩ = ⟨ak, an, sa⟩ from if_pos (by simp only; omega)]; rfl) | (rw [show whole ⟨ak, an, sa⟩ = vz from if_neg (by simp only; omega)]; rfl), rfl⟩
end Go.Proofs.Ythadifboeggnpaa

namespace Go.Proofs.Ythadifboeggnpaa
open Go.Av
def compareF (op : Int) (a b : Val) : Val :=
  if a.kind = 0 ∨ b.kind = 0 then vz else
  truth (if op = 10 then (!lessV a b && !lessV b a) else if op = 11 then (lessV a b || lessV b a) else if op = 12 then lessV a b else if op = 13 then !lessV b a else if op = 14 then lessV b a else !lessV a b)
def r47 : RCode :=
  (.seq (.region [
    ⟨(some 4), none, .act, .box (.tmp 1)⟩,
    ⟨(some 5), none, .act, .box (.tmp 2)⟩,
    ⟨(some 6), none, .act, .alloc [(.int .i64 0), (.int .i64 0), (.string ⟨#[]⟩)]⟩])
  (.seq (.seq (.region [
    ⟨(some 9), none, .act, .fieldAddr 0 (.tmp 4)⟩,
    ⟨(some 10), none, .act, .load false 1 (.tmp 9)⟩,
    ⟨(some 11), none, .act, .eq false .int (.tmp 10) (.const (.int .i64 0))⟩,
    ⟨(some 12), none, .act, .mv (.tmp 11)⟩,
    ⟨(some 13), (some (12, false)), .act, .fieldAddr 0 (.tmp 5)⟩,
    ⟨(some 14), (some (12, false)), .act, .load false 1 (.tmp 13)⟩,
    ⟨(some 15), (some (12, false)), .act, .eq false .int (.tmp 14) (.const (.int .i64 0))⟩,
    ⟨(some 16), none, .act, .pick (.tmp 12) (.const (.bool true)) (.tmp 15)⟩])
  (.cond (.tmp 16)
   (.seq (.region [
     ⟨(some 17), none, .act, .build [(.int .i64 0), (.int .i64 0), (.string ⟨#[]⟩)] []⟩,
     ⟨none, none, .act, .store 3 (.tmp 6) (.tmp 17)⟩])
   .ret)
   .skip))
  (.seq (.region [
    ⟨(some 18), none, .read, .load true 3 (.tmp 4)⟩,
    ⟨(some 19), none, .read, .load true 3 (.tmp 5)⟩,
    ⟨(some 20), none, .read, .call 58 [(.tmp 18), (.tmp 19)]⟩,
    ⟨(some 21), none, .read, .load true 3 (.tmp 5)⟩,
    ⟨(some 22), none, .read, .load true 3 (.tmp 4)⟩,
    ⟨(some 23), none, .act, .call 58 [(.tmp 21), (.tmp 22)]⟩,
    ⟨(some 7), none, .pure, .mv (.tmp 20)⟩,
    ⟨(some 8), none, .pure, .mv (.tmp 23)⟩])
  (.seq (.seq (.region [
    ⟨(some 24), none, .act, .mv (.tmp 0)⟩])
  (.block 0
   (.seq (.region [
     ⟨(some 26), none, .act, .eq false .int (.tmp 24) (.const (.int .i64 10))⟩,
     ⟨(some 25), none, .act, .mv (.tmp 26)⟩])
   (.cond (.tmp 25)
    (.seq (.region [
      ⟨(some 27), none, .act, .mv (.tmp 7)⟩,
      ⟨(some 28), none, .act, .un .not (.tmp 27)⟩,
      ⟨(some 29), none, .act, .mv (.tmp 28)⟩,
      ⟨(some 30), (some (29, true)), .act, .mv (.tmp 8)⟩,
      ⟨(some 31), (some (29, true)), .act, .un .not (.tmp 30)⟩,
      ⟨(some 32), none, .act, .pick (.tmp 29) (.tmp 31) (.const (.bool false))⟩,
      ⟨(some 33), none, .act, .call 45 [(.tmp 32)]⟩,
      ⟨none, none, .act, .store 3 (.tmp 6) (.tmp 33)⟩])
    .ret)
    (.seq (.region [
      ⟨(some 35), none, .act, .eq false .int (.tmp 24) (.const (.int .i64 11))⟩,
      ⟨(some 34), none, .act, .mv (.tmp 35)⟩])
    (.cond (.tmp 34)
     (.seq (.region [
       ⟨(some 36), none, .act, .mv (.tmp 7)⟩,
       ⟨(some 37), none, .act, .mv (.tmp 36)⟩,
       ⟨(some 38), (some (37, false)), .act, .mv (.tmp 8)⟩,
       ⟨(some 39), none, .act, .pick (.tmp 37) (.const (.bool true)) (.tmp 38)⟩,
       ⟨(some 40), none, .act, .call 45 [(.tmp 39)]⟩,
       ⟨none, none, .act, .store 3 (.tmp 6) (.tmp 40)⟩])
     .ret)
     (.seq (.region [
       ⟨(some 42), none, .act, .eq false .int (.tmp 24) (.const (.int .i64 12))⟩,
       ⟨(some 41), none, .act, .mv (.tmp 42)⟩])
     (.cond (.tmp 41)
      (.seq (.region [
        ⟨(some 43), none, .act, .mv (.tmp 7)⟩,
        ⟨(some 44), none, .act, .call 45 [(.tmp 43)]⟩,
        ⟨none, none, .act, .store 3 (.tmp 6) (.tmp 44)⟩])
      .ret)
      (.seq (.region [
        ⟨(some 46), none, .act, .eq false .int (.tmp 24) (.const (.int .i64 13))⟩,
        ⟨(some 45), none, .act, .mv (.tmp 46)⟩])
      (.cond (.tmp 45)
       (.seq (.region [
         ⟨(some 47), none, .act, .mv (.tmp 8)⟩,
         ⟨(some 48), none, .act, .un .not (.tmp 47)⟩,
         ⟨(some 49), none, .act, .call 45 [(.tmp 48)]⟩,
         ⟨none, none, .act, .store 3 (.tmp 6) (.tmp 49)⟩])
       .ret)
       (.seq (.region [
         ⟨(some 51), none, .act, .eq false .int (.tmp 24) (.const (.int .i64 14))⟩,
         ⟨(some 50), none, .act, .mv (.tmp 51)⟩])
       (.cond (.tmp 50)
        (.seq (.region [
          ⟨(some 52), none, .act, .mv (.tmp 8)⟩,
          ⟨(some 53), none, .act, .call 45 [(.tmp 52)]⟩,
          ⟨none, none, .act, .store 3 (.tmp 6) (.tmp 53)⟩])
        .ret)
        .skip))))))))))))
  (.seq (.region [
    ⟨(some 54), none, .act, .mv (.tmp 7)⟩,
    ⟨(some 55), none, .act, .un .not (.tmp 54)⟩,
    ⟨(some 56), none, .act, .call 45 [(.tmp 55)]⟩,
    ⟨none, none, .act, .store 3 (.tmp 6) (.tmp 56)⟩])
  .ret)))))
theorem res47 : ∃ c, Try.f47.body = some c ∧ resCode Try.prog 57 c = some r47 := ⟨_, rfl, by kernel_rfl⟩
theorem rr47 : resRes Try.prog Try.f47.results.toList = some [.cell 6 true 3] := by kernel_rfl
theorem compare_spec (op : Int) (a b : Val) (h : AHeap) : ACalls Try.prog 47 [i64 op, .ag a.cells, .ag b.cells] h (fun x h' => x = .ag (compareF op a b).cells ∧ h' = h) := by
  obtain ⟨c', hc1, hc2⟩ := res47
  refine ACalls.weak (ACalls.enter Try.func47 hc1 Try.ntmps47 hc2 (Nat.le_of_ble_eq_true rfl) rfl ?_)
  have c1 := fun h => less_spec a b h
  have c2 := fun h => less_spec b a h
  have c3 := fun b h => truth_spec b h
  unfold compareF
  obtain ⟨ak, an, sa⟩ := a
  obtain ⟨bk, bn, sb⟩ := b
  generalize lessV ⟨ak, an, sa⟩ ⟨bk, bn, sb⟩ = l at c1 ⊢
  generalize lessV ⟨bk, bn, sb⟩ ⟨ak, an, sa⟩ = m at c2 ⊢
  rw [show Val.cells ⟨ak, an, sa⟩ = [i64 ak, i64 an, str sa] from rfl, show Val.cells ⟨bk, bn, sb⟩ = [i64 bk, i64 bn, str sb] from rfl] at c1 c2 ⊢
  simp only
  cases l <;> cases m
  all_goals
    repeat' (first | refine S.nilK ?_ | (refine S.op rfl ?_; first | refine R.callQ (by decide) rfl (c1 _) ?_ | refine R.callQ (by decide) rfl (c2 _) ?_ | refine callS rfl rfl (c3 _ _) ?_ | refine R.mv rfl ?_ | refine R.fieldAddr rfl ?_ | refine R.load (by decide) rfl (by (repeat' (first | exact AHeap.set_same _ _ _ | refine AHeap.get_fresh ‹_› ?_)); first | done | fail) rfl ?_ | refine R.pickT rfl rfl ?_ | refine R.pickF rfl rfl ?_ | refine R.not rfl ?_ | refine R.alloc rfl (fun b hb => ?_) | refine R.box rfl rfl rfl (fun b hb => ?_) | refine R.build rfl rfl ?_ | ((first | refine S.eqInt rfl rfl ?_ ?_) <;> intro hlt <;> try (exfalso; omega))) | (refine S.op0 rfl ?_; first | refine S.storeS rfl rfl rfl (by rfl) rfl (by first | decide | exact Nat.le_refl _ | exact Nat.le_of_ble_eq_true rfl) ?_) | refine S.skip rfl ?_ | refine S.seq ?_ | refine S.region ?_ | refine S.condT rfl ?_ | refine S.condF rfl ?_ | refine RRun.skip ?_ | refine RRun.block ?_ | refine RRun.inBlock ?_)
    all_goals
      apply S.ret rr47
      case hx => repeat (first | exact ResAt.nil | apply ResAt.cellA rfl (by (repeat' (first | exact AHeap.set_same _ _ _)); first | done | fail) (by rfl))
      refine ⟨_, h, .refl _, (by repeat (first | exact AHeap.le.refl _ | refine AHeap.le.set ?_ _ (by (repeat' (first | assumption | exact AHeap.z1 ‹_› | exact AHeap.z2 ‹_›)); first | done | fail))), ?_, rfl⟩
      first | (rw [if_pos (by omega)]; rfl) | (rw [if_neg (by omega)]; refine congrArg AV.ag (congrArg Val.cells (congrArg truth (Eq.symm ?_))); repeat' (first | rfl | refine (if_pos (by omega)).trans ?_ | refine (if_neg (by omega)).trans ?_))
def bothF (o : Bool) (a b : Val) : Val :=
  if (a.kind = 1 ∧ (if o = true then a.n ≠ 0 else a.n = 0)) ∨ (b.kind = 1 ∧ (if o = true then b.n ≠ 0 else b.n = 0)) then truth o else if a.kind = 0 ∨ b.kind = 0 then vz else truth (!o)
def r59l0 : RCode :=
  (.seq (.region [
    ⟨(some 16), none, .act, .bin .lss (.tmp 15) (.const (.int .i64 2))⟩])
  (.seq (.cond (.tmp 16)
   .skip
   (.exit 0))
  (.seq (.block 1
   (.seq (.region [
     ⟨(some 17), none, .act, .indexAg true 2 3 (.tmp 14) (.tmp 15)⟩,
     ⟨(some 9), none, .act, .alloc [(.int .i64 0), (.int .i64 0), (.string ⟨#[]⟩)]⟩,
     ⟨none, none, .act, .store 3 (.tmp 9) (.tmp 17)⟩])
   (.seq (.region [
     ⟨(some 18), none, .act, .fieldAddr 0 (.tmp 9)⟩,
     ⟨(some 19), none, .act, .load false 1 (.tmp 18)⟩,
     ⟨(some 20), none, .act, .eq false .int (.tmp 19) (.const (.int .i64 1))⟩,
     ⟨(some 21), none, .act, .mv (.tmp 20)⟩,
     ⟨(some 22), (some (21, true)), .act, .fieldAddr 1 (.tmp 9)⟩,
     ⟨(some 23), (some (21, true)), .act, .load false 1 (.tmp 22)⟩,
     ⟨(some 24), (some (21, true)), .act, .eq true .int (.tmp 23) (.const (.int .i64 0))⟩,
     ⟨(some 25), (some (21, true)), .act, .mv (.tmp 0)⟩,
     ⟨(some 26), (some (21, true)), .act, .eq false .bool (.tmp 24) (.tmp 25)⟩,
     ⟨(some 27), none, .act, .pick (.tmp 21) (.tmp 26) (.const (.bool false))⟩])
   (.cond (.tmp 27)
    (.seq (.region [
      ⟨(some 28), none, .act, .load true 3 (.tmp 7)⟩,
      ⟨none, none, .act, .store 3 (.tmp 6) (.tmp 28)⟩])
    .ret)
    .skip))))
  (.region [
    ⟨(some 29), none, .act, .bin .add (.tmp 15) (.const (.int .i64 1))⟩,
    ⟨(some 15), none, .act, .mv (.tmp 29)⟩]))))
def r59 : RCode :=
  (.seq (.region [
    ⟨(some 4), none, .act, .box (.tmp 1)⟩,
    ⟨(some 5), none, .act, .box (.tmp 2)⟩,
    ⟨(some 6), none, .act, .alloc [(.int .i64 0), (.int .i64 0), (.string ⟨#[]⟩)]⟩])
  (.seq (.region [
    ⟨(some 10), none, .act, .mv (.tmp 0)⟩,
    ⟨(some 11), none, .act, .call 45 [(.tmp 10)]⟩,
    ⟨(some 7), none, .act, .alloc [(.int .i64 0), (.int .i64 0), (.string ⟨#[]⟩)]⟩,
    ⟨none, none, .act, .store 3 (.tmp 7) (.tmp 11)⟩])
  (.seq (.seq (.region [
    ⟨(some 12), none, .act, .load true 3 (.tmp 4)⟩,
    ⟨(some 13), none, .act, .load true 3 (.tmp 5)⟩,
    ⟨(some 14), none, .act, .build [(.int .i64 0), (.int .i64 0), (.string ⟨#[]⟩), (.int .i64 0), (.int .i64 0), (.string ⟨#[]⟩)] [(0, 3, (.tmp 12)), (3, 3, (.tmp 13))]⟩,
    ⟨(some 15), none, .act, .mv (.const (.int .i64 0))⟩])
  (.block 0
   (.loop r59l0)))
  (.seq (.seq (.region [
    ⟨(some 30), none, .act, .fieldAddr 0 (.tmp 4)⟩,
    ⟨(some 31), none, .act, .load false 1 (.tmp 30)⟩,
    ⟨(some 32), none, .act, .eq false .int (.tmp 31) (.const (.int .i64 0))⟩,
    ⟨(some 33), none, .act, .mv (.tmp 32)⟩,
    ⟨(some 34), (some (33, false)), .act, .fieldAddr 0 (.tmp 5)⟩,
    ⟨(some 35), (some (33, false)), .act, .load false 1 (.tmp 34)⟩,
    ⟨(some 36), (some (33, false)), .act, .eq false .int (.tmp 35) (.const (.int .i64 0))⟩,
    ⟨(some 37), none, .act, .pick (.tmp 33) (.const (.bool true)) (.tmp 36)⟩])
  (.cond (.tmp 37)
   (.seq (.region [
     ⟨(some 38), none, .act, .build [(.int .i64 0), (.int .i64 0), (.string ⟨#[]⟩)] []⟩,
     ⟨none, none, .act, .store 3 (.tmp 6) (.tmp 38)⟩])
   .ret)
   .skip))
  (.seq (.region [
    ⟨(some 39), none, .act, .mv (.tmp 0)⟩,
    ⟨(some 40), none, .act, .un .not (.tmp 39)⟩,
    ⟨(some 41), none, .act, .call 45 [(.tmp 40)]⟩,
    ⟨none, none, .act, .store 3 (.tmp 6) (.tmp 41)⟩])
  .ret)))))
theorem res59 : ∃ c, Try.f59.body = some c ∧ resCode Try.prog 42 c = some r59 := ⟨_, rfl, by kernel_rfl⟩
theorem rr59 : resRes Try.prog Try.f59.results.toList = some [.cell 6 true 3] := by kernel_rfl
theorem both_spec_true (a b : Val) (h : AHeap) : ACalls Try.prog 59 [bl true, .ag a.cells, .ag b.cells] h (fun x h' => x = .ag (bothF true a b).cells ∧ h' = h) := by
  obtain ⟨c', hc1, hc2⟩ := res59
  refine ACalls.weak (ACalls.enter Try.func59 hc1 Try.ntmps59 hc2 (Nat.le_of_ble_eq_true rfl) rfl ?_)
  have c3 : ∀ b h, ACalls Try.prog 45 [bl b] h (fun x h' => x = .ag [i64 1, i64 (if b then 1 else 0), str []] ∧ h' = h) := fun b h => truth_spec b h
  unfold bothF
  obtain ⟨ak, an, sa⟩ := a
  obtain ⟨bk, bn, sb⟩ := b
  rw [show Val.cells ⟨ak, an, sa⟩ = [i64 ak, i64 an, str sa] from rfl, show Val.cells ⟨bk, bn, sb⟩ = [i64 bk, i64 bn, str sb] from rfl]
  simp only
  all_goals
    simp only [Bool.false_eq_true, if_false, if_true]
    repeat' (first | ((show RRunG _ _ _ (.code (.loop _) :: _) _ _ _; refine RRun.loopIn ?_)) | ((show RRunG _ _ _ (.inLoop r59l0 :: _) _ _ _; refine RRun.inLoop ?_)) | refine S.nilK ?_ | (refine S.op rfl ?_; first | refine R.indexAg rfl rfl (by omega) (by omega) rfl ?_ | refine R.eqBool rfl rfl ?_ | refine callS rfl rfl (c3 _ _) ?_ | refine R.mv rfl ?_ | refine R.fieldAddr rfl ?_ | refine R.load (by decide) rfl (by (repeat' (first | exact AHeap.set_same _ _ _ | refine AHeap.get_fresh ‹_› ?_)); first | done | fail) rfl ?_ | refine S.addI rfl rfl (by omega) ?_ | refine R.pickT rfl rfl ?_ | refine R.pickF rfl rfl ?_ | refine R.not rfl ?_ | refine R.alloc rfl (fun b hb => ?_) | refine R.box rfl rfl rfl (fun b hb => ?_) | refine R.build rfl rfl ?_ | ((first | refine S.lss rfl rfl ?_ ?_ | refine S.eqInt rfl rfl ?_ ?_) <;> intro hlt <;> try (exfalso; omega))) | (refine S.op0 rfl ?_; first | refine S.storeS rfl rfl rfl (by rfl) rfl (by first | decide | exact Nat.le_refl _ | exact Nat.le_of_ble_eq_true rfl) ?_ | refine S.store rfl rfl (by (repeat' (first | exact AHeap.set_same _ _ _ | refine AHeap.get_fresh ‹_› ?_)); first | done | fail) rfl rfl rfl (by rfl) rfl ?_) | refine S.skip rfl ?_ | refine S.seq ?_ | refine S.region ?_ | refine S.condT rfl ?_ | refine S.condF rfl ?_ | refine RRun.skip ?_ | refine RRun.block ?_ | refine RRun.inBlock ?_ | refine RRun.exit rfl ?_)
    all_goals
      apply S.ret rr59
      case hx => repeat (first | exact ResAt.nil | apply ResAt.cellA rfl (by (repeat' (first | exact AHeap.set_same _ _ _)); first | done | fail) (by rfl))
      refine ⟨_, h, .refl _, (by repeat (first | exact AHeap.le.refl _ | refine AHeap.le.set ?_ _ (by (repeat' (first | assumption | exact AHeap.z1 ‹_› | exact AHeap.z2 ‹_› | exact AHeap.z3 ‹_› | exact AHeap.z4 ‹_› | exact AHeap.z5 ‹_›)); first | done | fail))), ?_, rfl⟩
      first | exact congrArg (fun v : Val => AV.ag v.cells) (a₁ := truth true) (Eq.symm (by repeat' (first | rfl | refine (if_pos (by omega)).trans ?_ | refine (if_neg (by omega)).trans ?_))) | exact congrArg (fun v : Val => AV.ag v.cells) (a₁ := truth false) (Eq.symm (by repeat' (first | rfl | refine (if_pos (by omega)).trans ?_ | refine (if_neg (by omega)).trans ?_))) | exact congrArg (fun v : Val => AV.ag v.cells) (a₁ := vz) (Eq.symm (by repeat' (first | rfl | refine (if_pos (by omega)).trans ?_ | refine (if_neg (by omega)).trans ?_)))
theorem both_spec_false (a b : Val) (h : AHeap) : ACalls Try.prog 59 [bl false, .ag a.cells, .ag b.cells] h (fun x h' => x = .ag (bothF false a b).cells ∧ h' = h) := by
  obtain ⟨c', hc1, hc2⟩ := res59
  refine ACalls.weak (ACalls.enter Try.func59 hc1 Try.ntmps59 hc2 (Nat.le_of_ble_eq_true rfl) rfl ?_)
  have c3 : ∀ b h, ACalls Try.prog 45 [bl b] h (fun x h' => x = .ag [i64 1, i64 (if b then 1 else 0), str []] ∧ h' = h) := fun b h => truth_spec b h
  unfold bothF
  obtain ⟨ak, an, sa⟩ := a
  obtain ⟨bk, bn, sb⟩ := b
  rw [show Val.cells ⟨ak, an, sa⟩ = [i64 ak, i64 an, str sa] from rfl, show Val.cells ⟨bk, bn, sb⟩ = [i64 bk, i64 bn, str sb] from rfl]
  simp only
  all_goals
    simp only [Bool.false_eq_true, if_false, if_true]
    repeat' (first | ((show RRunG _ _ _ (.code (.loop _) :: _) _ _ _; refine RRun.loopIn ?_)) | ((show RRunG _ _ _ (.inLoop r59l0 :: _) _ _ _; refine RRun.inLoop ?_)) | refine S.nilK ?_ | (refine S.op rfl ?_; first | refine R.indexAg rfl rfl (by omega) (by omega) rfl ?_ | refine R.eqBool rfl rfl ?_ | refine callS rfl rfl (c3 _ _) ?_ | refine R.mv rfl ?_ | refine R.fieldAddr rfl ?_ | refine R.load (by decide) rfl (by (repeat' (first | exact AHeap.set_same _ _ _ | refine AHeap.get_fresh ‹_› ?_)); first | done | fail) rfl ?_ | refine S.addI rfl rfl (by omega) ?_ | refine R.pickT rfl rfl ?_ | refine R.pickF rfl rfl ?_ | refine R.not rfl ?_ | refine R.alloc rfl (fun b hb => ?_) | refine R.box rfl rfl rfl (fun b hb => ?_) | refine R.build rfl rfl ?_ | ((first | refine S.lss rfl rfl ?_ ?_ | refine S.eqInt rfl rfl ?_ ?_) <;> intro hlt <;> try (exfalso; omega))) | (refine S.op0 rfl ?_; first | refine S.storeS rfl rfl rfl (by rfl) rfl (by first | decide | exact Nat.le_refl _ | exact Nat.le_of_ble_eq_true rfl) ?_ | refine S.store rfl rfl (by (repeat' (first | exact AHeap.set_same _ _ _ | refine AHeap.get_fresh ‹_› ?_)); first | done | fail) rfl rfl rfl (by rfl) rfl ?_) | refine S.skip rfl ?_ | refine S.seq ?_ | refine S.region ?_ | refine S.condT rfl ?_ | refine S.condF rfl ?_ | refine RRun.skip ?_ | refine RRun.block ?_ | refine RRun.inBlock ?_ | refine RRun.exit rfl ?_)
    all_goals
      apply S.ret rr59
      case hx => repeat (first | exact ResAt.nil | apply ResAt.cellA rfl (by (repeat' (first | exact AHeap.set_same _ _ _)); first | done | fail) (by rfl))
      refine ⟨_, h, .refl _, (by repeat (first | exact AHeap.le.refl _ | refine AHeap.le.set ?_ _ (by (repeat' (first | assumption | exact AHeap.z1 ‹_› | exact AHeap.z2 ‹_› | exact AHeap.z3 ‹_› | exact AHeap.z4 ‹_› | exact AHeap.z5 ‹_›)); first | done | fail))), ?_, rfl⟩
      first | exact congrArg (fun v : Val => AV.ag v.cells) (a₁ := truth true) (Eq.symm (by repeat' (first | rfl | refine (if_pos (by omega)).trans ?_ | refine (if_neg (by omega)).trans ?_))) | exact congrArg (fun v : Val => AV.ag v.cells) (a₁ := truth false) (Eq.symm (by repeat' (first | rfl | refine (if_pos (by omega)).trans ?_ | refine (if_neg (by omega)).trans ?_))) | exact congrArg (fun v : Val => AV.ag v.cells) (a₁ := vz) (Eq.symm (by repeat' (first | rfl | refine (if_pos (by omega)).trans ?_ | refine (if_neg (by omega)).trans ?_)))
theorem both_spec (o : Bool) (a b : Val) (h : AHeap) : ACalls Try.prog 59 [bl o, .ag a.cells, .ag b.cells] h (fun x h' => x = .ag (bothF o a b).cells ∧ h' = h) := by
  cases o
  · exact both_spec_false a b h
  · exact both_spec_true a b h
end Go.Proofs.Ythadifboeggnpaa

namespace Go.Proofs.Ythadifboeggnpaa
open Go.Av
def okP (n : Int) : Int × Bool := (if Fits n then n else 0, decide (Fits n))
def reckonF (op a b : Int) : Int × Bool :=
  if op = 4 then okP (-a) else if op = 5 then okP (a + b) else if op = 6 then okP (a - b) else if op = 7 then okP (a * b) else if op = 8 then divA a b else modA a b
abbrev pairA (p : Int × Bool) : AV := .tu [i64 p.1, bl p.2]
theorem okP_fits (n : Int) : Fits (okP n).1 := by
  unfold okP
  by_cases h : Fits n
  · simp only [if_pos h]; exact h
  · simp only [if_neg h]; exact ⟨by decide, by decide⟩
theorem divA_fits {a b : Int} : Fits (divA a b).1 := by
  unfold divA
  split
  · exact ⟨by decide, by decide⟩
  · split
    · exact okP_fits (-a)
    · exact wrap_i64_fits _
theorem modA_fits {a b : Int} (ha : Fits a) : Fits (modA a b).1 := by
  unfold modA
  split
  · exact ⟨by decide, by decide⟩
  · split
    · exact ⟨by decide, by decide⟩
    · have h1 : (a.tmod b).natAbs ≤ a.natAbs := by rw [Int.natAbs_tmod]; exact Nat.mod_le _ _
      show Fits (a.tmod b)
      generalize hr : a.tmod b = r at h1
      rcases Int.le_total 0 a with h3 | h3
      · exact ⟨by omega, by omega⟩
      · have h4 : 0 ≤ (-a).tmod b := Int.tmod_nonneg b (by omega)
        rw [Int.neg_tmod, hr] at h4
        exact ⟨by omega, by omega⟩
theorem reckonF_fits {op a b : Int} (ha : Fits a) : Fits (reckonF op a b).1 := by
  unfold reckonF
  repeat' split
  all_goals first | exact okP_fits _ | exact divA_fits | exact modA_fits ha
def r60 : RCode :=
  (.seq (.region [
    ⟨(some 6), none, .act, .mv (.const (.int .i64 0))⟩,
    ⟨(some 7), none, .act, .mv (.const (.bool false))⟩])
  (.seq (.seq (.region [
    ⟨(some 8), none, .act, .mv (.tmp 0)⟩])
  (.block 0
   (.seq (.region [
     ⟨(some 10), none, .act, .eq false .int (.tmp 8) (.const (.int .i64 4))⟩,
     ⟨(some 9), none, .act, .mv (.tmp 10)⟩])
   (.cond (.tmp 9)
    (.seq (.region [
      ⟨(some 11), none, .act, .mv (.tmp 1)⟩,
      ⟨(some 12), none, .act, .call 65 [(.tmp 11)]⟩,
      ⟨(some 13), none, .act, .extract (.tmp 12) 0⟩,
      ⟨(some 14), none, .act, .extract (.tmp 12) 1⟩,
      ⟨(some 6), none, .act, .mv (.tmp 13)⟩,
      ⟨(some 7), none, .act, .mv (.tmp 14)⟩])
    .ret)
    (.seq (.region [
      ⟨(some 16), none, .act, .eq false .int (.tmp 8) (.const (.int .i64 5))⟩,
      ⟨(some 15), none, .act, .mv (.tmp 16)⟩])
    (.cond (.tmp 15)
     (.seq (.region [
       ⟨(some 17), none, .act, .mv (.tmp 1)⟩,
       ⟨(some 18), none, .act, .mv (.tmp 2)⟩,
       ⟨(some 19), none, .act, .call 64 [(.tmp 17), (.tmp 18)]⟩,
       ⟨(some 20), none, .act, .extract (.tmp 19) 0⟩,
       ⟨(some 21), none, .act, .extract (.tmp 19) 1⟩,
       ⟨(some 6), none, .act, .mv (.tmp 20)⟩,
       ⟨(some 7), none, .act, .mv (.tmp 21)⟩])
     .ret)
     (.seq (.region [
       ⟨(some 23), none, .act, .eq false .int (.tmp 8) (.const (.int .i64 6))⟩,
       ⟨(some 22), none, .act, .mv (.tmp 23)⟩])
     (.cond (.tmp 22)
      (.seq (.region [
        ⟨(some 24), none, .act, .mv (.tmp 1)⟩,
        ⟨(some 25), none, .act, .mv (.tmp 2)⟩,
        ⟨(some 26), none, .act, .call 66 [(.tmp 24), (.tmp 25)]⟩,
        ⟨(some 27), none, .act, .extract (.tmp 26) 0⟩,
        ⟨(some 28), none, .act, .extract (.tmp 26) 1⟩,
        ⟨(some 6), none, .act, .mv (.tmp 27)⟩,
        ⟨(some 7), none, .act, .mv (.tmp 28)⟩])
      .ret)
      (.seq (.region [
        ⟨(some 30), none, .act, .eq false .int (.tmp 8) (.const (.int .i64 7))⟩,
        ⟨(some 29), none, .act, .mv (.tmp 30)⟩])
      (.cond (.tmp 29)
       (.seq (.region [
         ⟨(some 31), none, .act, .mv (.tmp 1)⟩,
         ⟨(some 32), none, .act, .mv (.tmp 2)⟩,
         ⟨(some 33), none, .act, .call 67 [(.tmp 31), (.tmp 32)]⟩,
         ⟨(some 34), none, .act, .extract (.tmp 33) 0⟩,
         ⟨(some 35), none, .act, .extract (.tmp 33) 1⟩,
         ⟨(some 6), none, .act, .mv (.tmp 34)⟩,
         ⟨(some 7), none, .act, .mv (.tmp 35)⟩])
       .ret)
       (.seq (.region [
         ⟨(some 37), none, .act, .eq false .int (.tmp 8) (.const (.int .i64 8))⟩,
         ⟨(some 36), none, .act, .mv (.tmp 37)⟩])
       (.cond (.tmp 36)
        (.seq (.region [
          ⟨(some 38), none, .act, .mv (.tmp 1)⟩,
          ⟨(some 39), none, .act, .mv (.tmp 2)⟩,
          ⟨(some 40), none, .act, .call 68 [(.tmp 38), (.tmp 39)]⟩,
          ⟨(some 41), none, .act, .extract (.tmp 40) 0⟩,
          ⟨(some 42), none, .act, .extract (.tmp 40) 1⟩,
          ⟨(some 6), none, .act, .mv (.tmp 41)⟩,
          ⟨(some 7), none, .act, .mv (.tmp 42)⟩])
        .ret)
        .skip))))))))))))
  (.seq (.region [
    ⟨(some 43), none, .act, .mv (.tmp 1)⟩,
    ⟨(some 44), none, .act, .mv (.tmp 2)⟩,
    ⟨(some 45), none, .act, .call 69 [(.tmp 43), (.tmp 44)]⟩,
    ⟨(some 46), none, .act, .extract (.tmp 45) 0⟩,
    ⟨(some 47), none, .act, .extract (.tmp 45) 1⟩,
    ⟨(some 6), none, .act, .mv (.tmp 46)⟩,
    ⟨(some 7), none, .act, .mv (.tmp 47)⟩])
  .ret)))
theorem res60 : ∃ c, Try.f60.body = some c ∧ resCode Try.prog 48 c = some r60 := ⟨_, rfl, by kernel_rfl⟩
theorem rr60 : resRes Try.prog Try.f60.results.toList = some [.tmp 6, .tmp 7] := by kernel_rfl
theorem reckon_spec (op a b : Int) (ha : Fits a) (hb : Fits b) (h : AHeap) : ACalls Try.prog 60 [i64 op, i64 a, i64 b] h (fun x h' => x = pairA (reckonF op a b) ∧ h' = h) := by
  obtain ⟨c', hc1, hc2⟩ := res60
  refine ACalls.enter Try.func60 hc1 Try.ntmps60 hc2 (Nat.le_of_ble_eq_true rfl) rfl ?_
  have c65 : ∀ h, ACalls Try.prog 65 [i64 a] h (fun x h' => x = pairA (okP (-a)) ∧ h' = h) := fun h => neg_spec a ha h
  have c64 : ∀ h, ACalls Try.prog 64 [i64 a, i64 b] h (fun x h' => x = pairA (okP (a + b)) ∧ h' = h) := fun h => add_spec a b ha hb h
  have c66 : ∀ h, ACalls Try.prog 66 [i64 a, i64 b] h (fun x h' => x = pairA (okP (a - b)) ∧ h' = h) := fun h => sub_spec a b ha hb h
  have c67 : ∀ h, ACalls Try.prog 67 [i64 a, i64 b] h (fun x h' => x = pairA (okP (a * b)) ∧ h' = h) := fun h => mul_spec a b ha hb h
  have c68 : ∀ h, ACalls Try.prog 68 [i64 a, i64 b] h (fun x h' => x = pairA (divA a b) ∧ h' = h) := fun h => div_spec a b ha hb h
  have c69 : ∀ h, ACalls Try.prog 69 [i64 a, i64 b] h (fun x h' => x = pairA (modA a b) ∧ h' = h) := fun h => mod_spec a b ha hb h
  repeat' (first | refine S.nilK ?_ | (refine S.op rfl ?_; first | refine callS rfl rfl (c65 _) ?_ | refine callS rfl rfl (c64 _) ?_ | refine callS rfl rfl (c66 _) ?_ | refine callS rfl rfl (c67 _) ?_ | refine callS rfl rfl (c68 _) ?_ | refine callS rfl rfl (c69 _) ?_ | refine R.mv rfl ?_ | refine R.extract rfl rfl ?_ | ((first | refine S.eqInt rfl rfl ?_ ?_) <;> intro hlt <;> try (exfalso; omega))) | refine S.seq ?_ | refine S.region ?_ | refine S.condT rfl ?_ | refine S.condF rfl ?_ | refine RRun.skip ?_ | refine RRun.block ?_ | refine RRun.inBlock ?_)
  all_goals
    apply S.ret rr60
    case hx => repeat (first | exact ResAt.nil | apply ResAt.tmp rfl)
    exact ⟨congrArg pairA (Eq.symm (by unfold reckonF; repeat' (first | rfl | refine (if_pos (by omega)).trans ?_ | refine (if_neg (by omega)).trans ?_))), rfl⟩
def applyF (op : Int) (a b : Val) : Val × Int :=
  if op = 16 then (if a = vz then (vz, 0) else (truth (decide (a.n = 0)), 0))
  else if op = 17 ∨ op = 18 then (bothF (decide (op = 18)) a b, 0)
  else if a = vz ∨ (b = vz ∧ op ≠ 4) then (vz, 0)
  else if (reckonF op a.n b.n).2 = true then (⟨1, (reckonF op a.n b.n).1, []⟩, 0) else if b.n = 0 ∧ (op = 8 ∨ op = 9) then (vz, 11) else (vz, 10)
abbrev resA (p : Val × Int) : AV := .tu [.ag p.1.cells, i64 p.2]
theorem vz_agg (a : Val) : aggEq [(0, .int), (1, .int), (2, .str)] [.int .i64 a.kind, .int .i64 a.n, .string ⟨a.s.toArray⟩] [.int .i64 0, .int .i64 0, .string ⟨#[]⟩] = some (decide (a = vz)) := by
  obtain ⟨k, n, s⟩ := a
  simp only [aggEq, atomEq, List.getElem?_cons_zero, List.getElem?_cons_succ, if_true]
  by_cases hk : k = 0
  · by_cases hn : n = 0
    · subst hk; subst hn
      cases s <;> simp
    · have : (n == 0) = false := by simpa using hn
      simp [hk, this, hn]
  · have : (k == 0) = false := by simpa using hk
    simp [this, hk]
def r48 : RCode :=
  (.seq (.region [
    ⟨(some 4), none, .act, .box (.tmp 1)⟩,
    ⟨(some 5), none, .act, .box (.tmp 2)⟩,
    ⟨(some 6), none, .act, .alloc [(.int .i64 0), (.int .i64 0), (.string ⟨#[]⟩)]⟩,
    ⟨(some 7), none, .act, .mv (.const (.int .i64 0))⟩])
  (.seq (.region [
    ⟨(some 11), none, .act, .build [(.int .i64 0), (.int .i64 0), (.string ⟨#[]⟩)] []⟩,
    ⟨(some 8), none, .act, .alloc [(.int .i64 0), (.int .i64 0), (.string ⟨#[]⟩)]⟩,
    ⟨none, none, .act, .store 3 (.tmp 8) (.tmp 11)⟩])
  (.seq (.seq (.region [
    ⟨(some 12), none, .act, .mv (.tmp 0)⟩])
  (.block 0
   (.seq (.region [
     ⟨(some 14), none, .act, .eq false .int (.tmp 12) (.const (.int .i64 16))⟩,
     ⟨(some 13), none, .act, .mv (.tmp 14)⟩])
   (.cond (.tmp 13)
    (.seq (.seq (.region [
      ⟨(some 15), none, .act, .load true 3 (.tmp 4)⟩,
      ⟨(some 16), none, .act, .load true 3 (.tmp 8)⟩,
      ⟨(some 17), none, .act, .eq false (.agg [(0, .int), (1, .int), (2, .str)]) (.tmp 15) (.tmp 16)⟩])
    (.cond (.tmp 17)
     (.seq (.region [
       ⟨(some 18), none, .act, .load true 3 (.tmp 8)⟩,
       ⟨none, none, .act, .store 3 (.tmp 6) (.tmp 18)⟩,
       ⟨(some 7), none, .act, .mv (.const (.int .i64 0))⟩])
     .ret)
     .skip))
    (.seq (.region [
      ⟨(some 19), none, .act, .fieldAddr 1 (.tmp 4)⟩,
      ⟨(some 20), none, .act, .load false 1 (.tmp 19)⟩,
      ⟨(some 21), none, .act, .eq false .int (.tmp 20) (.const (.int .i64 0))⟩,
      ⟨(some 22), none, .act, .call 45 [(.tmp 21)]⟩,
      ⟨none, none, .act, .store 3 (.tmp 6) (.tmp 22)⟩,
      ⟨(some 7), none, .act, .mv (.const (.int .i64 0))⟩])
    .ret))
    (.seq (.seq (.region [
      ⟨(some 24), none, .act, .eq false .int (.tmp 12) (.const (.int .i64 17))⟩,
      ⟨(some 23), none, .act, .mv (.tmp 24)⟩])
    (.cond (.tmp 23)
     .skip
     (.region [
       ⟨(some 25), none, .act, .eq false .int (.tmp 12) (.const (.int .i64 18))⟩,
       ⟨(some 23), none, .act, .mv (.tmp 25)⟩])))
    (.cond (.tmp 23)
     (.seq (.region [
       ⟨(some 26), none, .act, .mv (.tmp 0)⟩,
       ⟨(some 27), none, .act, .eq false .int (.tmp 26) (.const (.int .i64 18))⟩,
       ⟨(some 28), none, .act, .load true 3 (.tmp 4)⟩,
       ⟨(some 29), none, .act, .load true 3 (.tmp 5)⟩,
       ⟨(some 30), none, .act, .call 59 [(.tmp 27), (.tmp 28), (.tmp 29)]⟩,
       ⟨none, none, .act, .store 3 (.tmp 6) (.tmp 30)⟩,
       ⟨(some 7), none, .act, .mv (.const (.int .i64 0))⟩])
     .ret)
     .skip))))))
  (.seq (.seq (.region [
    ⟨(some 31), none, .act, .load true 3 (.tmp 4)⟩,
    ⟨(some 32), none, .act, .load true 3 (.tmp 8)⟩,
    ⟨(some 33), none, .act, .eq false (.agg [(0, .int), (1, .int), (2, .str)]) (.tmp 31) (.tmp 32)⟩,
    ⟨(some 34), none, .act, .mv (.tmp 33)⟩,
    ⟨(some 35), (some (34, false)), .act, .load true 3 (.tmp 5)⟩,
    ⟨(some 36), (some (34, false)), .act, .load true 3 (.tmp 8)⟩,
    ⟨(some 37), (some (34, false)), .act, .eq false (.agg [(0, .int), (1, .int), (2, .str)]) (.tmp 35) (.tmp 36)⟩,
    ⟨(some 38), (some (34, false)), .act, .mv (.tmp 37)⟩,
    ⟨(some 39), (some (38, true)), .act, .mv (.tmp 0)⟩,
    ⟨(some 40), (some (38, true)), .act, .eq true .int (.tmp 39) (.const (.int .i64 4))⟩,
    ⟨(some 41), (some (34, false)), .act, .pick (.tmp 38) (.tmp 40) (.const (.bool false))⟩,
    ⟨(some 42), none, .act, .pick (.tmp 34) (.const (.bool true)) (.tmp 41)⟩])
  (.cond (.tmp 42)
   (.seq (.region [
     ⟨(some 43), none, .act, .load true 3 (.tmp 8)⟩,
     ⟨none, none, .act, .store 3 (.tmp 6) (.tmp 43)⟩,
     ⟨(some 7), none, .act, .mv (.const (.int .i64 0))⟩])
   .ret)
   .skip))
  (.seq (.region [
    ⟨(some 45), none, .act, .mv (.tmp 0)⟩,
    ⟨(some 46), none, .act, .fieldAddr 1 (.tmp 4)⟩,
    ⟨(some 47), none, .act, .load false 1 (.tmp 46)⟩,
    ⟨(some 48), none, .act, .fieldAddr 1 (.tmp 5)⟩,
    ⟨(some 49), none, .act, .load false 1 (.tmp 48)⟩,
    ⟨(some 50), none, .act, .call 60 [(.tmp 45), (.tmp 47), (.tmp 49)]⟩,
    ⟨(some 44), none, .act, .mv (.tmp 50)⟩,
    ⟨(some 51), none, .act, .extract (.tmp 44) 0⟩,
    ⟨(some 52), none, .act, .extract (.tmp 44) 1⟩,
    ⟨(some 9), none, .act, .mv (.tmp 51)⟩,
    ⟨(some 10), none, .act, .mv (.tmp 52)⟩])
  (.seq (.block 1
   (.seq (.region [
     ⟨(some 54), none, .act, .mv (.tmp 10)⟩,
     ⟨(some 53), none, .act, .mv (.tmp 54)⟩])
   (.cond (.tmp 53)
    (.seq (.region [
      ⟨(some 55), none, .act, .mv (.tmp 9)⟩,
      ⟨(some 56), none, .act, .build [(.int .i64 0), (.int .i64 0), (.string ⟨#[]⟩)] [(0, 1, (.const (.int .i64 1))), (1, 1, (.tmp 55))]⟩,
      ⟨none, none, .act, .store 3 (.tmp 6) (.tmp 56)⟩,
      ⟨(some 7), none, .act, .mv (.const (.int .i64 0))⟩])
    .ret)
    (.seq (.region [
      ⟨(some 58), none, .act, .fieldAddr 1 (.tmp 5)⟩,
      ⟨(some 59), none, .act, .load false 1 (.tmp 58)⟩,
      ⟨(some 60), none, .act, .eq false .int (.tmp 59) (.const (.int .i64 0))⟩,
      ⟨(some 61), none, .act, .mv (.tmp 60)⟩,
      ⟨(some 62), (some (61, true)), .act, .mv (.tmp 0)⟩,
      ⟨(some 63), (some (61, true)), .act, .eq false .int (.tmp 62) (.const (.int .i64 8))⟩,
      ⟨(some 64), (some (61, true)), .act, .mv (.tmp 63)⟩,
      ⟨(some 65), (some (64, false)), .act, .mv (.tmp 0)⟩,
      ⟨(some 66), (some (64, false)), .act, .eq false .int (.tmp 65) (.const (.int .i64 9))⟩,
      ⟨(some 67), (some (61, true)), .act, .pick (.tmp 64) (.const (.bool true)) (.tmp 66)⟩,
      ⟨(some 68), none, .act, .pick (.tmp 61) (.tmp 67) (.const (.bool false))⟩,
      ⟨(some 57), none, .act, .mv (.tmp 68)⟩])
    (.cond (.tmp 57)
     (.seq (.region [
       ⟨(some 69), none, .act, .load true 3 (.tmp 8)⟩,
       ⟨none, none, .act, .store 3 (.tmp 6) (.tmp 69)⟩,
       ⟨(some 7), none, .act, .mv (.const (.int .i64 11))⟩])
     .ret)
     .skip)))))
  (.seq (.region [
    ⟨(some 70), none, .act, .load true 3 (.tmp 8)⟩,
    ⟨none, none, .act, .store 3 (.tmp 6) (.tmp 70)⟩,
    ⟨(some 7), none, .act, .mv (.const (.int .i64 10))⟩])
  .ret)))))))
theorem res48 : ∃ c, Try.f48.body = some c ∧ resCode Try.prog 71 c = some r48 := ⟨_, rfl, by kernel_rfl⟩
theorem rr48 : resRes Try.prog Try.f48.results.toList = some [.cell 6 true 3, .tmp 7] := by kernel_rfl
set_option maxHeartbeats 2000000 in
theorem apply_spec (op : Int) (a b : Val) (ha : Fits a.n) (hb : Fits b.n) (h : AHeap) : ACalls Try.prog 48 [i64 op, .ag a.cells, .ag b.cells] h (fun x h' => x = resA (applyF op a b) ∧ h' = h) := by
  obtain ⟨c', hc1, hc2⟩ := res48
  refine ACalls.weak (ACalls.enter Try.func48 hc1 Try.ntmps48 hc2 (Nat.le_of_ble_eq_true rfl) rfl ?_)
  have c59 := fun o h => both_spec o a b h
  have c60 := fun h => reckon_spec op a.n b.n ha hb h
  have g1 := vz_agg a
  have g2 := vz_agg b
  have c45 : ∀ b h, ACalls Try.prog 45 [bl b] h (fun x h' => x = .ag [i64 1, i64 (if b then 1 else 0), str []] ∧ h' = h) := fun b h => truth_spec b h
  unfold applyF
  generalize hr : reckonF op a.n b.n = r at c60 ⊢
  obtain ⟨r1, r2⟩ := r
  generalize hA : decide (a = vz) = dA at g1
  generalize hB : decide (b = vz) = dB at g2
  have hBo : ∀ o, (bothF o a b).cells = [i64 (bothF o a b).kind, i64 (bothF o a b).n, str (bothF o a b).s] := fun _ => rfl
  simp only [hBo] at c59
  generalize hbf : bothF = bf at c59 ⊢
  have hA' : a = vz ↔ dA = true := by rw [← hA]; simp
  have hB' : b = vz ↔ dB = true := by rw [← hB]; simp
  simp only [hA', hB']
  clear hA hB hA' hB' hr
  obtain ⟨ak, an, sa⟩ := a
  obtain ⟨bk, bn, sb⟩ := b
  rw [show Val.cells ⟨ak, an, sa⟩ = [i64 ak, i64 an, str sa] from rfl, show Val.cells ⟨bk, bn, sb⟩ = [i64 bk, i64 bn, str sb] from rfl] at c59 ⊢
  simp only at c60 g1 g2 ⊢
  cases dA <;> cases dB <;> cases r2
  all_goals
    simp only [Bool.false_eq_true, if_false, if_true, false_or, or_false, false_and, and_false, true_and, true_or, or_true]
    repeat' (first | refine S.nilK ?_ | (refine S.op rfl ?_; first | refine R.eqAgg (xs := [.int .i64 ak, .int .i64 an, .string ⟨sa.toArray⟩]) (ys := [.int .i64 0, .int .i64 0, .string ⟨#[]⟩]) rfl rfl g1 ?_ | refine R.eqAgg (xs := [.int .i64 bk, .int .i64 bn, .string ⟨sb.toArray⟩]) (ys := [.int .i64 0, .int .i64 0, .string ⟨#[]⟩]) rfl rfl g2 ?_ | refine callS rfl rfl (c59 _ _) ?_ | refine callS rfl rfl (c60 _) ?_ | refine callS rfl rfl (c45 _ _) ?_ | refine R.mv rfl ?_ | refine R.fieldAddr rfl ?_ | refine R.load (by decide) rfl (by (repeat' (first | exact AHeap.set_same _ _ _ | refine AHeap.get_fresh ‹_› ?_)); first | done | fail) rfl ?_ | refine R.pickT rfl rfl ?_ | refine R.pickF rfl rfl ?_ | refine R.extract rfl rfl ?_ | refine R.alloc rfl (fun b hb => ?_) | refine R.box rfl rfl rfl (fun b hb => ?_) | refine R.build rfl rfl ?_ | ((first | refine S.eqInt rfl rfl ?_ ?_) <;> intro hlt <;> try (exfalso; omega))) | (refine S.op0 rfl ?_; first | refine S.storeS rfl rfl rfl (by rfl) rfl (by first | decide | exact Nat.le_refl _ | exact Nat.le_of_ble_eq_true rfl) ?_ | refine S.store rfl rfl (by (repeat' (first | exact AHeap.set_same _ _ _ | refine AHeap.get_fresh ‹_› ?_)); first | done | fail) rfl rfl rfl (by rfl) rfl ?_) | refine S.skip rfl ?_ | refine S.seq ?_ | refine S.region ?_ | refine S.condT rfl ?_ | refine S.condF rfl ?_ | refine RRun.skip ?_ | refine RRun.block ?_ | refine RRun.inBlock ?_)
    all_goals
      apply S.ret rr48
      case hx => repeat (first | exact ResAt.nil | apply ResAt.tmp rfl | apply ResAt.cellA rfl (by (repeat' (first | exact AHeap.set_same _ _ _)); first | done | fail) (by rfl))
      refine ⟨_, h, .refl _, (by repeat (first | exact AHeap.le.refl _ | refine AHeap.le.set ?_ _ (by (repeat' (first | assumption | exact AHeap.z1 ‹_› | exact AHeap.z2 ‹_› | exact AHeap.z3 ‹_›)); first | done | fail))), ?_, rfl⟩
      first | exact congrArg resA (a₁ := (vz, 0)) (Eq.symm (by repeat' (first | rfl | refine (if_pos (by omega)).trans ?_ | refine (if_neg (by omega)).trans ?_ | exact congrArg (fun b => (truth b, (0 : Int))) (decide_eq_true (by omega)) | exact congrArg (fun b => (truth b, (0 : Int))) (decide_eq_false (by omega)) | exact congrArg (fun o => (bf o _ _, (0 : Int))) (decide_eq_true (by omega)) | exact congrArg (fun o => (bf o _ _, (0 : Int))) (decide_eq_false (by omega))))) | exact congrArg resA (a₁ := (vz, 11)) (Eq.symm (by repeat' (first | rfl | refine (if_pos (by omega)).trans ?_ | refine (if_neg (by omega)).trans ?_ | exact congrArg (fun b => (truth b, (0 : Int))) (decide_eq_true (by omega)) | exact congrArg (fun b => (truth b, (0 : Int))) (decide_eq_false (by omega)) | exact congrArg (fun o => (bf o _ _, (0 : Int))) (decide_eq_true (by omega)) | exact congrArg (fun o => (bf o _ _, (0 : Int))) (decide_eq_false (by omega))))) | exact congrArg resA (a₁ := (vz, 10)) (Eq.symm (by repeat' (first | rfl | refine (if_pos (by omega)).trans ?_ | refine (if_neg (by omega)).trans ?_ | exact congrArg (fun b => (truth b, (0 : Int))) (decide_eq_true (by omega)) | exact congrArg (fun b => (truth b, (0 : Int))) (decide_eq_false (by omega)) | exact congrArg (fun o => (bf o _ _, (0 : Int))) (decide_eq_true (by omega)) | exact congrArg (fun o => (bf o _ _, (0 : Int))) (decide_eq_false (by omega))))) | exact congrArg resA (a₁ := (truth true, 0)) (Eq.symm (by repeat' (first | rfl | refine (if_pos (by omega)).trans ?_ | refine (if_neg (by omega)).trans ?_ | exact congrArg (fun b => (truth b, (0 : Int))) (decide_eq_true (by omega)) | exact congrArg (fun b => (truth b, (0 : Int))) (decide_eq_false (by omega)) | exact congrArg (fun o => (bf o _ _, (0 : Int))) (decide_eq_true (by omega)) | exact congrArg (fun o => (bf o _ _, (0 : Int))) (decide_eq_false (by omega))))) | exact congrArg resA (a₁ := (truth false, 0)) (Eq.symm (by repeat' (first | rfl | refine (if_pos (by omega)).trans ?_ | refine (if_neg (by omega)).trans ?_ | exact congrArg (fun b => (truth b, (0 : Int))) (decide_eq_true (by omega)) | exact congrArg (fun b => (truth b, (0 : Int))) (decide_eq_false (by omega)) | exact congrArg (fun o => (bf o _ _, (0 : Int))) (decide_eq_true (by omega)) | exact congrArg (fun o => (bf o _ _, (0 : Int))) (decide_eq_false (by omega))))) | exact congrArg resA (a₁ := (bf true ⟨ak, an, sa⟩ ⟨bk, bn, sb⟩, 0)) (Eq.symm (by repeat' (first | rfl | refine (if_pos (by omega)).trans ?_ | refine (if_neg (by omega)).trans ?_ | exact congrArg (fun b => (truth b, (0 : Int))) (decide_eq_true (by omega)) | exact congrArg (fun b => (truth b, (0 : Int))) (decide_eq_false (by omega)) | exact congrArg (fun o => (bf o _ _, (0 : Int))) (decide_eq_true (by omega)) | exact congrArg (fun o => (bf o _ _, (0 : Int))) (decide_eq_false (by omega))))) | exact congrArg resA (a₁ := (bf false ⟨ak, an, sa⟩ ⟨bk, bn, sb⟩, 0)) (Eq.symm (by repeat' (first | rfl | refine (if_pos (by omega)).trans ?_ | refine (if_neg (by omega)).trans ?_ | exact congrArg (fun b => (truth b, (0 : Int))) (decide_eq_true (by omega)) | exact congrArg (fun b => (truth b, (0 : Int))) (decide_eq_false (by omega)) | exact congrArg (fun o => (bf o _ _, (0 : Int))) (decide_eq_true (by omega)) | exact congrArg (fun o => (bf o _ _, (0 : Int))) (decide_eq_false (by omega))))) | exact congrArg resA (a₁ := ((⟨1, r1, []⟩ : Val), (0 : Int))) (Eq.symm (by repeat' (first | rfl | refine (if_pos (by omega)).trans ?_ | refine (if_neg (by omega)).trans ?_ | exact congrArg (fun b => (truth b, (0 : Int))) (decide_eq_true (by omega)) | exact congrArg (fun b => (truth b, (0 : Int))) (decide_eq_false (by omega)) | exact congrArg (fun o => (bf o _ _, (0 : Int))) (decide_eq_true (by omega)) | exact congrArg (fun o => (bf o _ _, (0 : Int))) (decide_eq_false (by omega)))))
end Go.Proofs.Ythadifboeggnpaa

namespace Go.Av
theorem S.drop {P : Program} {ro : Option Nat} {n : Nat} {k : List RT} {E : AEnv} {h h₀ : AHeap} {Q : Option Code → AEnv → AHeap → Prop} (hle : h₀.le h) (H : RRunG P ro n k E h₀ Q) : RRunG P ro n k E h Q :=
  RRun.weaken (fun _ _ h => h) (fun w hr => Rel.sub hle hr) H
end Go.Av
namespace Go.Proofs.Ythadifboeggnpaa
open Go.Av
inductive Ex where
  | mk (op : Int) (table name : List UInt8) (n : Int) (v : Val) (args : List Ex)
def Ex.op : Ex → Int | .mk o _ _ _ _ _ => o
def Ex.n : Ex → Int | .mk _ _ _ n _ _ => n
def Ex.v : Ex → Val | .mk _ _ _ _ v _ => v
def Ex.args : Ex → List Ex | .mk _ _ _ _ _ l => l
mutual
def Ex.cells : Ex → List AV
  | .mk op t nm n v args => [i64 op, str t, str nm, i64 n, i64 v.kind, i64 v.n, str v.s, .sl 8 (Ex.cellsL args) .ro]
def Ex.cellsL : List Ex → List (List AV)
  | [] => []
  | e :: l => Ex.cells e :: Ex.cellsL l
end
mutual
def Ex.ok : Ex → Prop
  | .mk op t nm n v args => Fits op ∧ Fits n ∧ v.ok ∧ args.length ≤ 9223372036854775807 ∧ Ex.okL args
def Ex.okL : List Ex → Prop
  | [] => True
  | e :: l => Ex.ok e ∧ Ex.okL l
end
theorem cellsL_eq : ∀ (l : List Ex), Ex.cellsL l = l.map Ex.cells
  | [] => rfl
  | e :: l => by rw [Ex.cellsL, List.map_cons, cellsL_eq l]
theorem okL_mem : ∀ {l : List Ex}, Ex.okL l → ∀ e ∈ l, e.ok
  | [], _, e, h => by cases h
  | x :: l, hl, e, h => by
    rw [Ex.okL] at hl
    rcases List.mem_cons.1 h with rfl | h
    · exact hl.1
    · exact okL_mem hl.2 e h
abbrev exprs (l : List Ex) : AV := .sl 8 (l.map Ex.cells) .ro
theorem cells_mk (op : Int) (t nm : List UInt8) (n vk vn : Int) (vs : List UInt8) (args : List Ex) : (Ex.mk op t nm n ⟨vk, vn, vs⟩ args).cells = [i64 op, str t, str nm, i64 n, i64 vk, i64 vn, str vs, exprs args] := by
  rw [Ex.cells, cellsL_eq]
abbrev Row := List Val
abbrev rowA (r : Row) : AV := .sl 3 (r.map Val.cells) .ro
abbrev rowsA (l : List Row) : AV := .sl 1 (l.map fun r => [rowA r]) .ro
def few (l : Row) : Bool := l.all (fun v => decide (v.s.length ≤ 100)) && decide (l.length ≤ 20)
def r21l0 : RCode :=
  (.seq (.region [
    ⟨(some 8), none, .act, .bin .lss (.tmp 7) (.tmp 6)⟩])
  (.seq (.cond (.tmp 8)
   .skip
   (.exit 0))
  (.seq (.block 1
   (.seq (.region [
     ⟨(some 9), none, .act, .indexAddr 3 (.tmp 5) (.tmp 7)⟩,
     ⟨(some 10), none, .act, .load true 3 (.tmp 9)⟩,
     ⟨(some 4), none, .act, .alloc [(.int .i64 0), (.int .i64 0), (.string ⟨#[]⟩)]⟩,
     ⟨none, none, .act, .store 3 (.tmp 4) (.tmp 10)⟩])
   (.seq (.region [
     ⟨(some 11), none, .act, .fieldAddr 2 (.tmp 4)⟩,
     ⟨(some 12), none, .act, .load false 1 (.tmp 11)⟩,
     ⟨(some 13), none, .act, .lenStr (.tmp 12)⟩,
     ⟨(some 14), none, .act, .bin .gtr (.tmp 13) (.const (.int .i64 100))⟩])
   (.cond (.tmp 14)
    (.seq (.region [
      ⟨(some 2), none, .act, .mv (.const (.bool false))⟩])
    .ret)
    .skip))))
  (.region [
    ⟨(some 15), none, .act, .bin .add (.tmp 7) (.const (.int .i64 1))⟩,
    ⟨(some 7), none, .act, .mv (.tmp 15)⟩]))))
def r21 : RCode :=
  (.seq (.region [
    ⟨(some 2), none, .act, .mv (.const (.bool false))⟩])
  (.seq (.seq (.region [
    ⟨(some 5), none, .act, .mv (.tmp 0)⟩,
    ⟨(some 6), none, .act, .len (.tmp 5)⟩,
    ⟨(some 7), none, .act, .mv (.const (.int .i64 0))⟩])
  (.block 0
   (.loop r21l0)))
  (.seq (.region [
    ⟨(some 16), none, .act, .mv (.tmp 0)⟩,
    ⟨(some 17), none, .act, .len (.tmp 16)⟩,
    ⟨(some 18), none, .act, .bin .leq (.tmp 17) (.const (.int .i64 20))⟩,
    ⟨(some 2), none, .act, .mv (.tmp 18)⟩])
  .ret)))
theorem res21 : ∃ c, Try.f21.body = some c ∧ resCode Try.prog 19 c = some r21 := ⟨_, rfl, by kernel_rfl⟩
theorem rr21 : resRes Try.prog Try.f21.results.toList = some [.tmp 2] := by kernel_rfl
theorem few_loop (l : Row) (hl : l.length ≤ 9223372036854775807) (h : AHeap) (k : List RT) (Q : AV → AHeap → Prop) (x0 : AV)
    (hk : l.all (fun v => decide (v.s.length ≤ 100)) = true → RRun Try.prog Try.f21 19 k (Env.get [(0, rowA l)]) h Q) (hf : few l = false → ∀ h', h.le h' → Q (bl false) h') : ∀ (m i : Nat), i + m = l.length → (l.take i).all (fun v => decide (v.s.length ≤ 100)) = true →
    RRun Try.prog Try.f21 19 (.inLoop r21l0 :: .inBlock 0 :: k) (Env.get [(0, rowA l), (5, rowA l), (6, i64 l.length), (7, i64 i)]) h Q := by
  intro m
  induction m with
  | zero =>
    intro i hi ht
    rw [List.take_of_length_le (by omega)] at ht
    refine RRun.inLoop ?_
    repeat' (first | refine S.nilK ?_ | (refine S.op rfl ?_; first | ((first | refine S.lss rfl rfl ?_ ?_) <;> intro hlt <;> try (exfalso; omega))) | refine S.seq ?_ | refine S.region ?_ | refine S.condF rfl ?_ | refine RRun.exit rfl ?_)
    exact S.keep [0] rfl (hk ht)
  | succ m ih =>
    intro i hi ht
    have hie : i < l.length := by omega
    have h1 : (l.map Val.cells)[((i : Nat) : Int).toNat]? = some [i64 l[i].kind, i64 l[i].n, str l[i].s] := by simp [hie]; rfl
    have hs : (l.take (i + 1)).all (fun v => decide (v.s.length ≤ 100)) = decide (l[i].s.length ≤ 100) := by
      rw [List.take_add_one, List.getElem?_eq_getElem hie, List.all_append, ht]; simp
    refine RRun.inLoop ?_
    by_cases hc : l[i].s.length ≤ 100
    ·
      repeat' (first | refine S.nilK ?_ | (refine S.op rfl ?_; first | refine R.indexAddr rfl rfl (by omega) h1 ?_ | refine S.lenS rfl ?_ | refine R.mv rfl ?_ | refine R.fieldAddr rfl ?_ | refine R.loadR rfl rfl ?_ | refine R.load (by decide) rfl (by (repeat' (first | exact AHeap.set_same _ _ _)); first | done | fail) rfl ?_ | refine S.addI rfl rfl (by omega) ?_ | refine R.alloc rfl (fun b hb => ?_) | ((first | refine S.lss rfl rfl ?_ ?_ | refine S.gtr rfl rfl ?_ ?_) <;> intro hlt <;> try (exfalso; omega))) | (refine S.op0 rfl ?_; first | refine S.storeS rfl rfl rfl (by rfl) rfl (by first | decide | exact Nat.le_refl _ | exact Nat.le_of_ble_eq_true rfl) ?_) | refine S.seq ?_ | refine S.region ?_ | refine S.condT rfl ?_ | refine S.condF rfl ?_ | refine RRun.skip ?_ | refine RRun.block ?_ | refine RRun.inBlock ?_)
      rw [show ((i : Int) + 1) = ((i + 1 : Nat) : Int) by omega]
      refine S.keep [0, 5, 6, 7] rfl (S.drop (by repeat (first | exact AHeap.le.refl _ | refine AHeap.le.set ?_ _ (by (repeat' (first | assumption)); first | done | fail))) (ih (i + 1) (by omega) (by rw [hs]; exact decide_eq_true hc)))
    ·
      repeat' (first | refine S.nilK ?_ | (refine S.op rfl ?_; first | refine R.indexAddr rfl rfl (by omega) h1 ?_ | refine S.lenS rfl ?_ | refine R.mv rfl ?_ | refine R.fieldAddr rfl ?_ | refine R.loadR rfl rfl ?_ | refine R.load (by decide) rfl (by (repeat' (first | exact AHeap.set_same _ _ _)); first | done | fail) rfl ?_ | refine R.alloc rfl (fun b hb => ?_) | ((first | refine S.lss rfl rfl ?_ ?_ | refine S.gtr rfl rfl ?_ ?_) <;> intro hlt <;> try (exfalso; omega))) | (refine S.op0 rfl ?_; first | refine S.storeS rfl rfl rfl (by rfl) rfl (by first | decide | exact Nat.le_refl _ | exact Nat.le_of_ble_eq_true rfl) ?_) | refine S.seq ?_ | refine S.region ?_ | refine S.condT rfl ?_ | refine RRun.skip ?_ | refine RRun.block ?_)
      apply S.ret rr21
      case hx => repeat (first | exact ResAt.nil | apply ResAt.tmp rfl)
      refine hf ?_ _ (by repeat (first | exact AHeap.le.refl _ | refine AHeap.le.set ?_ _ (by (repeat' (first | assumption)); first | done | fail)))
      unfold few
      have : l.all (fun v => decide (v.s.length ≤ 100)) = false := by
        rw [List.all_eq_false]
        exact ⟨_, List.getElem_mem hie, by simp; omega⟩
      rw [this]; rfl
theorem few_spec (l : Row) (hl : l.length ≤ 9223372036854775807) (h : AHeap) : ACalls Try.prog 21 [rowA l] h (fun x h' => x = bl (few l) ∧ h' = h) := by
  obtain ⟨c', hc1, hc2⟩ := res21
  refine ACalls.weak (ACalls.enter Try.func21 hc1 Try.ntmps21 hc2 (Nat.le_of_ble_eq_true rfl) rfl ?_)
  have hlen : (l.map Val.cells).length = l.length := by simp
  repeat' (first | refine S.nilK ?_ | (refine S.op rfl ?_; first | refine R.mv rfl ?_ | refine R.len rfl ?_) | refine S.seq ?_ | refine S.region ?_ | refine RRun.block ?_)
  rw [hlen]
  refine RRun.loopIn (S.keep [0, 5, 6, 7] rfl (few_loop l hl h _ _ (bl false) (fun ha => ?_) (fun hf h' hh => ⟨_, h, .refl _, hh, by rw [hf], rfl⟩) l.length 0 (by omega) rfl))
  repeat' (first | refine S.nilK ?_ | (refine S.op rfl ?_; first | refine R.mv rfl ?_ | refine R.len rfl ?_ | ((first | refine S.leq rfl rfl ?_ ?_) <;> intro hlt <;> try (exfalso; omega))) | refine S.seq ?_ | refine S.region ?_)
  all_goals
    apply S.ret rr21
    case hx => repeat (first | exact ResAt.nil | apply ResAt.tmp rfl)
    exact ⟨_, h, .refl _, (by repeat (first | exact AHeap.le.refl _)), bl_eq (by unfold few; rw [ha, Bool.true_and]; first | exact (decide_eq_true (by omega)).symm | exact (decide_eq_false (by omega)).symm), rfl⟩
def fewRows (l : List Row) : Bool := l.all few && decide (l.length ≤ 25)
def r8l0 : RCode :=
  (.seq (.region [
    ⟨(some 8), none, .act, .bin .lss (.tmp 7) (.tmp 6)⟩])
  (.seq (.cond (.tmp 8)
   .skip
   (.exit 0))
  (.seq (.block 1
   (.seq (.region [
     ⟨(some 9), none, .act, .indexAddr 1 (.tmp 5) (.tmp 7)⟩,
     ⟨(some 10), none, .act, .load false 1 (.tmp 9)⟩,
     ⟨(some 4), none, .act, .mv (.tmp 10)⟩])
   (.seq (.region [
     ⟨(some 11), none, .act, .mv (.tmp 4)⟩,
     ⟨(some 12), none, .act, .call 21 [(.tmp 11)]⟩,
     ⟨(some 13), none, .act, .un .not (.tmp 12)⟩])
   (.cond (.tmp 13)
    (.seq (.region [
      ⟨(some 2), none, .act, .mv (.const (.bool false))⟩])
    .ret)
    .skip))))
  (.region [
    ⟨(some 14), none, .act, .bin .add (.tmp 7) (.const (.int .i64 1))⟩,
    ⟨(some 7), none, .act, .mv (.tmp 14)⟩]))))
def r8 : RCode :=
  (.seq (.region [
    ⟨(some 2), none, .act, .mv (.const (.bool false))⟩])
  (.seq (.seq (.region [
    ⟨(some 5), none, .act, .mv (.tmp 0)⟩,
    ⟨(some 6), none, .act, .len (.tmp 5)⟩,
    ⟨(some 7), none, .act, .mv (.const (.int .i64 0))⟩])
  (.block 0
   (.loop r8l0)))
  (.seq (.region [
    ⟨(some 15), none, .act, .mv (.tmp 0)⟩,
    ⟨(some 16), none, .act, .len (.tmp 15)⟩,
    ⟨(some 17), none, .act, .bin .leq (.tmp 16) (.const (.int .i64 25))⟩,
    ⟨(some 2), none, .act, .mv (.tmp 17)⟩])
  .ret)))
theorem res8 : ∃ c, Try.f8.body = some c ∧ resCode Try.prog 18 c = some r8 := ⟨_, rfl, by kernel_rfl⟩
theorem rr8 : resRes Try.prog Try.f8.results.toList = some [.tmp 2] := by kernel_rfl
theorem rows_loop (l : List Row) (hl : l.length ≤ 9223372036854775807) (hr : ∀ r ∈ l, r.length ≤ 9223372036854775807) (h : AHeap) (k : List RT) (Q : AV → AHeap → Prop)
    (hk : l.all few = true → RRun Try.prog Try.f8 18 k (Env.get [(0, rowsA l)]) h Q) (hf : fewRows l = false → ∀ h', h.le h' → Q (bl false) h') : ∀ (m i : Nat), i + m = l.length → (l.take i).all few = true →
    RRun Try.prog Try.f8 18 (.inLoop r8l0 :: .inBlock 0 :: k) (Env.get [(0, rowsA l), (5, rowsA l), (6, i64 l.length), (7, i64 i)]) h Q := by
  intro m
  induction m with
  | zero =>
    intro i hi ht
    rw [List.take_of_length_le (by omega)] at ht
    refine RRun.inLoop ?_
    repeat' (first | refine S.nilK ?_ | (refine S.op rfl ?_; first | ((first | refine S.lss rfl rfl ?_ ?_) <;> intro hlt <;> try (exfalso; omega))) | refine S.seq ?_ | refine S.region ?_ | refine S.condF rfl ?_ | refine RRun.exit rfl ?_)
    exact S.keep [0] rfl (hk ht)
  | succ m ih =>
    intro i hi ht
    have hie : i < l.length := by omega
    have h1 : (l.map fun r => [rowA r])[((i : Nat) : Int).toNat]? = some [rowA l[i]] := by simp [hie]
    have c21 := fun h => few_spec l[i] (hr _ (List.getElem_mem hie)) h
    have hs : (l.take (i + 1)).all few = few l[i] := by
      rw [List.take_add_one, List.getElem?_eq_getElem hie, List.all_append, ht]; simp
    refine RRun.inLoop ?_
    cases hc : few l[i] with
    | true =>
      rw [hc] at c21
      repeat' (first | refine S.nilK ?_ | (refine S.op rfl ?_; first | refine R.indexAddr rfl rfl (by omega) h1 ?_ | refine callS rfl rfl (c21 _) ?_ | refine R.mv rfl ?_ | refine R.loadR rfl rfl ?_ | refine S.addI rfl rfl (by omega) ?_ | refine R.not rfl ?_ | ((first | refine S.lss rfl rfl ?_ ?_) <;> intro hlt <;> try (exfalso; omega))) | refine S.seq ?_ | refine S.region ?_ | refine S.condT rfl ?_ | refine S.condF rfl ?_ | refine RRun.skip ?_ | refine RRun.block ?_ | refine RRun.inBlock ?_)
      rw [show ((i : Int) + 1) = ((i + 1 : Nat) : Int) by omega]
      refine S.keep [0, 5, 6, 7] rfl (ih (i + 1) (by omega) (by rw [hs]; exact hc))
    | false =>
      rw [hc] at c21
      repeat' (first | refine S.nilK ?_ | (refine S.op rfl ?_; first | refine R.indexAddr rfl rfl (by omega) h1 ?_ | refine callS rfl rfl (c21 _) ?_ | refine R.mv rfl ?_ | refine R.loadR rfl rfl ?_ | refine R.not rfl ?_ | ((first | refine S.lss rfl rfl ?_ ?_) <;> intro hlt <;> try (exfalso; omega))) | refine S.seq ?_ | refine S.region ?_ | refine S.condT rfl ?_ | refine RRun.skip ?_ | refine RRun.block ?_)
      apply S.ret rr8
      case hx => repeat (first | exact ResAt.nil | apply ResAt.tmp rfl)
      refine hf ?_ _ (by repeat (first | exact AHeap.le.refl _))
      unfold fewRows
      have : l.all few = false := by
        rw [List.all_eq_false]
        exact ⟨_, List.getElem_mem hie, by simp [hc]⟩
      rw [this]; rfl
theorem rows_spec (l : List Row) (hl : l.length ≤ 9223372036854775807) (hr : ∀ r ∈ l, r.length ≤ 9223372036854775807) (h : AHeap) : ACalls Try.prog 8 [rowsA l] h (fun x h' => x = bl (fewRows l) ∧ h' = h) := by
  obtain ⟨c', hc1, hc2⟩ := res8
  refine ACalls.weak (ACalls.enter Try.func8 hc1 Try.ntmps8 hc2 (Nat.le_of_ble_eq_true rfl) rfl ?_)
  have hlen : (l.map fun r => [rowA r]).length = l.length := by simp
  repeat' (first | refine S.nilK ?_ | (refine S.op rfl ?_; first | refine R.mv rfl ?_ | refine R.len rfl ?_) | refine S.seq ?_ | refine S.region ?_ | refine RRun.block ?_)
  rw [hlen]
  refine RRun.loopIn (S.keep [0, 5, 6, 7] rfl (rows_loop l hl hr h _ _ (fun ha => ?_) (fun hf h' hh => ⟨_, h, .refl _, hh, by rw [hf], rfl⟩) l.length 0 (by omega) rfl))
  repeat' (first | refine S.nilK ?_ | (refine S.op rfl ?_; first | refine R.mv rfl ?_ | refine R.len rfl ?_ | ((first | refine S.leq rfl rfl ?_ ?_) <;> intro hlt <;> try (exfalso; omega))) | refine S.seq ?_ | refine S.region ?_)
  all_goals
    apply S.ret rr8
    case hx => repeat (first | exact ResAt.nil | apply ResAt.tmp rfl)
    exact ⟨_, h, .refl _, (by repeat (first | exact AHeap.le.refl _)), bl_eq (by unfold fewRows; rw [ha, Bool.true_and]; first | exact (decide_eq_true (by omega)).symm | exact (decide_eq_false (by omega)).symm), rfl⟩
def lightN : Nat → Ex → Bool
  | 0, _ => false
  | d + 1, .mk op t nm n v args => decide (args.length ≤ 3) && decide (IntKind.i64.wrap (IntKind.i64.wrap ((nm.length : Int) + t.length) + v.s.length) ≤ 200) && args.all (lightN d)
def r22l0 : RCode :=
  (.seq (.region [
    ⟨(some 34), none, .act, .bin .lss (.tmp 33) (.tmp 32)⟩])
  (.seq (.cond (.tmp 34)
   .skip
   (.exit 0))
  (.seq (.block 1
   (.seq (.region [
     ⟨(some 35), none, .act, .indexAddr 8 (.tmp 31) (.tmp 33)⟩,
     ⟨(some 36), none, .act, .load true 8 (.tmp 35)⟩,
     ⟨(some 6), none, .act, .alloc [(.int .i64 0), (.string ⟨#[]⟩), (.string ⟨#[]⟩), (.int .i64 0), (.int .i64 0), (.int .i64 0), (.string ⟨#[]⟩), (.slice none 0 0)]⟩,
     ⟨none, none, .act, .store 8 (.tmp 6) (.tmp 36)⟩])
   (.seq (.region [
     ⟨(some 37), none, .act, .load true 8 (.tmp 6)⟩,
     ⟨(some 38), none, .act, .mv (.tmp 1)⟩,
     ⟨(some 39), none, .act, .bin .sub (.tmp 38) (.const (.int .i64 1))⟩,
     ⟨(some 40), none, .act, .call 22 [(.tmp 37), (.tmp 39)]⟩,
     ⟨(some 41), none, .act, .un .not (.tmp 40)⟩])
   (.cond (.tmp 41)
    (.seq (.region [
      ⟨(some 4), none, .act, .mv (.const (.bool false))⟩])
    .ret)
    .skip))))
  (.region [
    ⟨(some 42), none, .act, .bin .add (.tmp 33) (.const (.int .i64 1))⟩,
    ⟨(some 33), none, .act, .mv (.tmp 42)⟩]))))
def r22 : RCode :=
  (.seq (.region [
    ⟨(some 2), none, .act, .box (.tmp 0)⟩,
    ⟨(some 4), none, .act, .mv (.const (.bool false))⟩])
  (.seq (.seq (.region [
    ⟨(some 7), none, .act, .mv (.tmp 1)⟩,
    ⟨(some 8), none, .act, .eq false .int (.tmp 7) (.const (.int .i64 0))⟩,
    ⟨(some 9), none, .act, .mv (.tmp 8)⟩,
    ⟨(some 10), (some (9, false)), .act, .fieldAddr 7 (.tmp 2)⟩,
    ⟨(some 11), (some (9, false)), .act, .load false 1 (.tmp 10)⟩,
    ⟨(some 12), (some (9, false)), .act, .len (.tmp 11)⟩,
    ⟨(some 13), (some (9, false)), .act, .bin .gtr (.tmp 12) (.const (.int .i64 3))⟩,
    ⟨(some 14), none, .act, .pick (.tmp 9) (.const (.bool true)) (.tmp 13)⟩,
    ⟨(some 15), none, .act, .mv (.tmp 14)⟩,
    ⟨(some 16), (some (15, false)), .act, .fieldAddr 2 (.tmp 2)⟩,
    ⟨(some 17), (some (15, false)), .act, .load false 1 (.tmp 16)⟩,
    ⟨(some 18), (some (15, false)), .act, .lenStr (.tmp 17)⟩,
    ⟨(some 19), (some (15, false)), .act, .fieldAddr 1 (.tmp 2)⟩,
    ⟨(some 20), (some (15, false)), .act, .load false 1 (.tmp 19)⟩,
    ⟨(some 21), (some (15, false)), .act, .lenStr (.tmp 20)⟩,
    ⟨(some 22), (some (15, false)), .act, .bin .add (.tmp 18) (.tmp 21)⟩,
    ⟨(some 23), (some (15, false)), .act, .fieldAddr 4 (.tmp 2)⟩,
    ⟨(some 24), (some (15, false)), .act, .fieldAddr 2 (.tmp 23)⟩,
    ⟨(some 25), (some (15, false)), .act, .load false 1 (.tmp 24)⟩,
    ⟨(some 26), (some (15, false)), .act, .lenStr (.tmp 25)⟩,
    ⟨(some 27), (some (15, false)), .act, .bin .add (.tmp 22) (.tmp 26)⟩,
    ⟨(some 28), (some (15, false)), .act, .bin .gtr (.tmp 27) (.const (.int .i64 200))⟩,
    ⟨(some 29), none, .act, .pick (.tmp 15) (.const (.bool true)) (.tmp 28)⟩])
  (.cond (.tmp 29)
   (.seq (.region [
     ⟨(some 4), none, .act, .mv (.const (.bool false))⟩])
   .ret)
   .skip))
  (.seq (.seq (.region [
    ⟨(some 30), none, .act, .fieldAddr 7 (.tmp 2)⟩,
    ⟨(some 31), none, .act, .load false 1 (.tmp 30)⟩,
    ⟨(some 32), none, .act, .len (.tmp 31)⟩,
    ⟨(some 33), none, .act, .mv (.const (.int .i64 0))⟩])
  (.block 0
   (.loop r22l0)))
  (.seq (.region [
    ⟨(some 4), none, .act, .mv (.const (.bool true))⟩])
  .ret))))
theorem res22 : ∃ c, Try.f22.body = some c ∧ resCode Try.prog 43 c = some r22 := ⟨_, rfl, by kernel_rfl⟩
theorem rr22 : resRes Try.prog Try.f22.results.toList = some [.tmp 4] := by kernel_rfl
theorem light_loop (d : Nat) (l : List Ex) (hl : l.length ≤ 3) (hd : d ≤ 100) (p2 : Nat) (h : AHeap) (k : List RT) (Q : AV → AHeap → Prop)
    (ih0 : ∀ e ∈ l, ∀ h, ACalls Try.prog 22 [.ag e.cells, i64 (((d + 1 : Nat) : Int) - 1)] h (fun x h' => x = bl (lightN d e) ∧ h' = h))
    (hk : l.all (lightN d) = true → RRun Try.prog Try.f22 43 k (Env.get []) h Q) (hf : l.all (lightN d) = false → ∀ h', h.le h' → Q (bl false) h') : ∀ (m i : Nat), i + m = l.length → (l.take i).all (lightN d) = true →
    RRun Try.prog Try.f22 43 (.inLoop r22l0 :: .inBlock 0 :: k) (Env.get [(1, i64 (d + 1 : Nat)), (31, exprs l), (32, i64 l.length), (33, i64 i)]) h Q := by
  intro m
  induction m with
  | zero =>
    intro i hi ht
    rw [List.take_of_length_le (by omega)] at ht
    refine RRun.inLoop ?_
    repeat' (first | refine S.nilK ?_ | (refine S.op rfl ?_; first | ((first | refine S.lss rfl rfl ?_ ?_) <;> intro hlt <;> try (exfalso; omega))) | refine S.seq ?_ | refine S.region ?_ | refine S.condF rfl ?_ | refine RRun.exit rfl ?_)
    exact S.keep [] rfl (hk ht)
  | succ m ih =>
    intro i hi ht
    have hie : i < l.length := by omega
    have h1 : (l.map Ex.cells)[((i : Nat) : Int).toNat]? = some l[i].cells := by simp [hie]
    have c22 := fun h => ih0 l[i] (List.getElem_mem hie) h
    have hs : (l.take (i + 1)).all (lightN d) = lightN d l[i] := by
      rw [List.take_add_one, List.getElem?_eq_getElem hie, List.all_append, ht]; simp
    have hall : lightN d l[i] = false → l.all (lightN d) = false := fun e => by
      rw [List.all_eq_false]
      exact ⟨_, List.getElem_mem hie, by simp [e]⟩
    generalize hc : lightN d l[i] = c at c22 hs hall
    generalize l[i] = e at h1 c22
    obtain ⟨op, t, nm, n, ⟨vk, vn, vs⟩, args⟩ := e
    rw [cells_mk] at h1 c22
    refine RRun.inLoop ?_
    cases c with
    | true =>
      repeat' (first | refine S.nilK ?_ | (refine S.op rfl ?_; first | refine R.indexAddr rfl rfl (by omega) h1 ?_ | refine callS rfl rfl (c22 _) ?_ | refine R.mv rfl ?_ | refine R.loadR rfl rfl ?_ | refine R.load (by decide) rfl (by (repeat' (first | exact AHeap.set_same _ _ _)); first | done | fail) rfl ?_ | refine S.addI rfl rfl (by omega) ?_ | refine S.subI rfl rfl (by omega) ?_ | refine R.not rfl ?_ | refine R.alloc rfl (fun b hb => ?_) | ((first | refine S.lss rfl rfl ?_ ?_) <;> intro hlt <;> try (exfalso; omega))) | (refine S.op0 rfl ?_; first | refine S.storeS rfl rfl rfl (by rfl) rfl (by first | decide | exact Nat.le_refl _ | exact Nat.le_of_ble_eq_true rfl) ?_) | refine S.seq ?_ | refine S.region ?_ | refine S.condT rfl ?_ | refine S.condF rfl ?_ | refine RRun.skip ?_ | refine RRun.block ?_ | refine RRun.inBlock ?_)
      rw [show ((i : Int) + 1) = ((i + 1 : Nat) : Int) by omega]
      exact S.keep [1, 31, 32, 33] rfl (S.drop (by repeat (first | exact AHeap.le.refl _ | refine AHeap.le.set ?_ _ (by (repeat' (first | assumption)); first | done | fail))) (ih (i + 1) (by omega) hs))
    | false =>
      repeat' (first | refine S.nilK ?_ | (refine S.op rfl ?_; first | refine R.indexAddr rfl rfl (by omega) h1 ?_ | refine callS rfl rfl (c22 _) ?_ | refine R.mv rfl ?_ | refine R.loadR rfl rfl ?_ | refine R.load (by decide) rfl (by (repeat' (first | exact AHeap.set_same _ _ _)); first | done | fail) rfl ?_ | refine S.subI rfl rfl (by omega) ?_ | refine R.not rfl ?_ | refine R.alloc rfl (fun b hb => ?_) | ((first | refine S.lss rfl rfl ?_ ?_) <;> intro hlt <;> try (exfalso; omega))) | (refine S.op0 rfl ?_; first | refine S.storeS rfl rfl rfl (by rfl) rfl (by first | decide | exact Nat.le_refl _ | exact Nat.le_of_ble_eq_true rfl) ?_) | refine S.seq ?_ | refine S.region ?_ | refine S.condT rfl ?_ | refine RRun.skip ?_ | refine RRun.block ?_)
      apply S.ret rr22
      case hx => repeat (first | exact ResAt.nil | apply ResAt.tmp rfl)
      exact hf (hall rfl) _ (by repeat (first | exact AHeap.le.refl _ | refine AHeap.le.set ?_ _ (by (repeat' (first | assumption)); first | done | fail)))
theorem light_spec : ∀ (d : Nat), d ≤ 100 → ∀ (e : Ex), e.ok → ∀ h, ACalls Try.prog 22 [.ag e.cells, i64 d] h (fun x h' => x = bl (lightN d e) ∧ h' = h) := by
  intro d
  induction d with
  | zero =>
    intro hd e he h
    obtain ⟨op, t, nm, n, ⟨vk, vn, vs⟩, args⟩ := e
    rw [cells_mk]
    obtain ⟨c', hc1, hc2⟩ := res22
    refine ACalls.weak (ACalls.enter Try.func22 hc1 Try.ntmps22 hc2 (Nat.le_of_ble_eq_true rfl) rfl ?_)
    repeat' (first | refine S.nilK ?_ | (refine S.op rfl ?_; first | refine S.eqIntSame (a := 0) rfl rfl ?_ | refine R.mv rfl ?_ | refine R.pickT rfl rfl ?_ | refine R.box rfl rfl rfl (fun b hb => ?_)) | refine S.skip rfl ?_ | refine S.seq ?_ | refine S.region ?_ | refine S.condT rfl ?_)
    apply S.ret rr22
    case hx => repeat (first | exact ResAt.nil | apply ResAt.tmp rfl)
    exact ⟨_, h, .refl _, (by repeat (first | exact AHeap.le.refl _ | refine AHeap.le.set ?_ _ (by (repeat' (first | assumption)); first | done | fail))), rfl, rfl⟩
  | succ d ihd =>
    intro hd e he h
    obtain ⟨op, t, nm, n, ⟨vk, vn, vs⟩, args⟩ := e
    rw [Ex.ok] at he
    obtain ⟨-, -, -, hal, hol⟩ := he
    have ih0 : ∀ e ∈ args, ∀ h, ACalls Try.prog 22 [.ag e.cells, i64 (((d + 1 : Nat) : Int) - 1)] h (fun x h' => x = bl (lightN d e) ∧ h' = h) := fun e he h => by
      rw [show ((d + 1 : Nat) : Int) - 1 = (d : Int) by omega]
      exact ihd (by omega) e (okL_mem hol e he) h
    rw [cells_mk, lightN]
    simp only
    have hlen : (args.map Ex.cells).length = args.length := by simp
    obtain ⟨c', hc1, hc2⟩ := res22
    refine ACalls.weak (ACalls.enter Try.func22 hc1 Try.ntmps22 hc2 (Nat.le_of_ble_eq_true rfl) rfl ?_)
    by_cases hA : args.length ≤ 3
    · rw [decide_eq_true hA, Bool.true_and]
      by_cases hB : IntKind.i64.wrap (IntKind.i64.wrap ((nm.length : Int) + t.length) + vs.length) ≤ 200
      · rw [decide_eq_true hB, Bool.true_and]
        repeat' (first | refine S.nilK ?_ | (refine S.op rfl ?_; first | refine S.lenS rfl ?_ | refine S.arith rfl rfl rfl ?_ | refine R.mv rfl ?_ | refine R.fieldAddr rfl ?_ | refine R.load (by decide) rfl (by (repeat' (first | exact AHeap.set_same _ _ _)); first | done | fail) rfl ?_ | refine R.pickF rfl rfl ?_ | refine R.len rfl ?_ | refine R.box rfl rfl rfl (fun b hb => ?_) | ((first | refine S.gtr rfl rfl ?_ ?_ | refine S.eqInt rfl rfl ?_ ?_) <;> intro hlt <;> try (exfalso; omega))) | refine S.seq ?_ | refine S.region ?_ | refine S.condF rfl ?_ | refine RRun.skip ?_ | refine RRun.block ?_)
        rw [hlen]
        refine RRun.loopIn (S.keep [1, 31, 32, 33] rfl (S.drop (by repeat (first | exact AHeap.le.refl _ | refine AHeap.le.set ?_ _ (by (repeat' (first | assumption)); first | done | fail))) (light_loop d args hA (by omega) 0 h _ _ ih0 (fun ha => ?_) (fun hf h' hh => ⟨_, h, .refl _, hh, by rw [hf], rfl⟩) args.length 0 (by omega) rfl)))
        repeat' (first | refine S.nilK ?_ | (refine S.op rfl ?_; first | refine R.mv rfl ?_) | refine S.seq ?_ | refine S.region ?_)
        apply S.ret rr22
        case hx => repeat (first | exact ResAt.nil | apply ResAt.tmp rfl)
        exact ⟨_, h, .refl _, (by repeat (first | exact AHeap.le.refl _)), by rw [ha]; rfl, rfl⟩
      · rw [decide_eq_false hB, Bool.false_and]
        repeat' (first | refine S.nilK ?_ | (refine S.op rfl ?_; first | refine S.lenS rfl ?_ | refine S.arith rfl rfl rfl ?_ | refine R.mv rfl ?_ | refine R.fieldAddr rfl ?_ | refine R.load (by decide) rfl (by (repeat' (first | exact AHeap.set_same _ _ _)); first | done | fail) rfl ?_ | refine R.pickF rfl rfl ?_ | refine R.len rfl ?_ | refine R.box rfl rfl rfl (fun b hb => ?_) | ((first | refine S.gtr rfl rfl ?_ ?_ | refine S.eqInt rfl rfl ?_ ?_) <;> intro hlt <;> try (exfalso; omega))) | refine S.seq ?_ | refine S.region ?_ | refine S.condT rfl ?_)
        apply S.ret rr22
        case hx => repeat (first | exact ResAt.nil | apply ResAt.tmp rfl)
        exact ⟨_, h, .refl _, (by repeat (first | exact AHeap.le.refl _ | refine AHeap.le.set ?_ _ (by (repeat' (first | assumption)); first | done | fail))), rfl, rfl⟩
    · rw [decide_eq_false hA, Bool.false_and, Bool.false_and]
      repeat' (first | refine S.nilK ?_ | (refine S.op rfl ?_; first | refine R.mv rfl ?_ | refine R.fieldAddr rfl ?_ | refine R.load (by decide) rfl (by (repeat' (first | exact AHeap.set_same _ _ _)); first | done | fail) rfl ?_ | refine R.pickT rfl rfl ?_ | refine R.pickF rfl rfl ?_ | refine R.len rfl ?_ | refine R.box rfl rfl rfl (fun b hb => ?_) | ((first | refine S.gtr rfl rfl ?_ ?_ | refine S.eqInt rfl rfl ?_ ?_) <;> intro hlt <;> try (exfalso; omega))) | refine S.skip rfl ?_ | refine S.seq ?_ | refine S.region ?_ | refine S.condT rfl ?_)
      apply S.ret rr22
      case hx => repeat (first | exact ResAt.nil | apply ResAt.tmp rfl)
      exact ⟨_, h, .refl _, (by repeat (first | exact AHeap.le.refl _ | refine AHeap.le.set ?_ _ (by (repeat' (first | assumption)); first | done | fail))), rfl, rfl⟩
def lights (l : List Ex) : Bool := l.all (lightN 8) && decide (l.length ≤ 6)
def r9l0 : RCode :=
  (.seq (.region [
    ⟨(some 8), none, .act, .bin .lss (.tmp 7) (.tmp 6)⟩])
  (.seq (.cond (.tmp 8)
   .skip
   (.exit 0))
  (.seq (.block 1
   (.seq (.region [
     ⟨(some 9), none, .act, .indexAddr 8 (.tmp 5) (.tmp 7)⟩,
     ⟨(some 10), none, .act, .load true 8 (.tmp 9)⟩,
     ⟨(some 4), none, .act, .alloc [(.int .i64 0), (.string ⟨#[]⟩), (.string ⟨#[]⟩), (.int .i64 0), (.int .i64 0), (.int .i64 0), (.string ⟨#[]⟩), (.slice none 0 0)]⟩,
     ⟨none, none, .act, .store 8 (.tmp 4) (.tmp 10)⟩])
   (.seq (.region [
     ⟨(some 11), none, .act, .load true 8 (.tmp 4)⟩,
     ⟨(some 12), none, .act, .call 22 [(.tmp 11), (.const (.int .i64 8))]⟩,
     ⟨(some 13), none, .act, .un .not (.tmp 12)⟩])
   (.cond (.tmp 13)
    (.seq (.region [
      ⟨(some 2), none, .act, .mv (.const (.bool false))⟩])
    .ret)
    .skip))))
  (.region [
    ⟨(some 14), none, .act, .bin .add (.tmp 7) (.const (.int .i64 1))⟩,
    ⟨(some 7), none, .act, .mv (.tmp 14)⟩]))))
def r9 : RCode :=
  (.seq (.region [
    ⟨(some 2), none, .act, .mv (.const (.bool false))⟩])
  (.seq (.seq (.region [
    ⟨(some 5), none, .act, .mv (.tmp 0)⟩,
    ⟨(some 6), none, .act, .len (.tmp 5)⟩,
    ⟨(some 7), none, .act, .mv (.const (.int .i64 0))⟩])
  (.block 0
   (.loop r9l0)))
  (.seq (.region [
    ⟨(some 15), none, .act, .mv (.tmp 0)⟩,
    ⟨(some 16), none, .act, .len (.tmp 15)⟩,
    ⟨(some 17), none, .act, .bin .leq (.tmp 16) (.const (.int .i64 6))⟩,
    ⟨(some 2), none, .act, .mv (.tmp 17)⟩])
  .ret)))
theorem res9 : ∃ c, Try.f9.body = some c ∧ resCode Try.prog 18 c = some r9 := ⟨_, rfl, by kernel_rfl⟩
theorem rr9 : resRes Try.prog Try.f9.results.toList = some [.tmp 2] := by kernel_rfl
theorem exprs_loop (l : List Ex) (hl : l.length ≤ 9223372036854775807) (hr : ∀ e ∈ l, e.ok) (h : AHeap) (k : List RT) (Q : AV → AHeap → Prop)
    (hk : l.all (lightN 8) = true → RRun Try.prog Try.f9 18 k (Env.get [(0, exprs l)]) h Q) (hf : lights l = false → ∀ h', h.le h' → Q (bl false) h') : ∀ (m i : Nat), i + m = l.length → (l.take i).all (lightN 8) = true →
    RRun Try.prog Try.f9 18 (.inLoop r9l0 :: .inBlock 0 :: k) (Env.get [(0, exprs l), (5, exprs l), (6, i64 l.length), (7, i64 i)]) h Q := by
  intro m
  induction m with
  | zero =>
    intro i hi ht
    rw [List.take_of_length_le (by omega)] at ht
    refine RRun.inLoop ?_
    repeat' (first | refine S.nilK ?_ | (refine S.op rfl ?_; first | ((first | refine S.lss rfl rfl ?_ ?_) <;> intro hlt <;> try (exfalso; omega))) | refine S.seq ?_ | refine S.region ?_ | refine S.condF rfl ?_ | refine RRun.exit rfl ?_)
    exact S.keep [0] rfl (hk ht)
  | succ m ih =>
    intro i hi ht
    have hie : i < l.length := by omega
    have h1 : (l.map Ex.cells)[((i : Nat) : Int).toNat]? = some l[i].cells := by simp [hie]
    have c22 : ∀ h, ACalls Try.prog 22 [.ag l[i].cells, i64 8] h (fun x h' => x = bl (lightN 8 l[i]) ∧ h' = h) := fun h => light_spec 8 (by decide) l[i] (hr _ (List.getElem_mem hie)) h
    have hs : (l.take (i + 1)).all (lightN 8) = lightN 8 l[i] := by
      rw [List.take_add_one, List.getElem?_eq_getElem hie, List.all_append, ht]; simp
    have hall : lightN 8 l[i] = false → lights l = false := fun e => by
      unfold lights
      have : l.all (lightN 8) = false := by
        rw [List.all_eq_false]
        exact ⟨_, List.getElem_mem hie, by simp [e]⟩
      rw [this]; rfl
    generalize hc : lightN 8 l[i] = c at c22 hs hall
    generalize l[i] = e at h1 c22
    obtain ⟨op, t, nm, n, ⟨vk, vn, vs⟩, args⟩ := e
    rw [cells_mk] at h1 c22
    refine RRun.inLoop ?_
    cases c with
    | true =>
      repeat' (first | refine S.nilK ?_ | (refine S.op rfl ?_; first | refine R.indexAddr rfl rfl (by omega) h1 ?_ | refine callS rfl rfl (c22 _) ?_ | refine R.mv rfl ?_ | refine R.loadR rfl rfl ?_ | refine R.load (by decide) rfl (by (repeat' (first | exact AHeap.set_same _ _ _)); first | done | fail) rfl ?_ | refine S.addI rfl rfl (by omega) ?_ | refine R.not rfl ?_ | refine R.alloc rfl (fun b hb => ?_) | ((first | refine S.lss rfl rfl ?_ ?_) <;> intro hlt <;> try (exfalso; omega))) | (refine S.op0 rfl ?_; first | refine S.storeS rfl rfl rfl (by rfl) rfl (by first | decide | exact Nat.le_refl _ | exact Nat.le_of_ble_eq_true rfl) ?_) | refine S.seq ?_ | refine S.region ?_ | refine S.condT rfl ?_ | refine S.condF rfl ?_ | refine RRun.skip ?_ | refine RRun.block ?_ | refine RRun.inBlock ?_)
      rw [show ((i : Int) + 1) = ((i + 1 : Nat) : Int) by omega]
      exact S.keep [0, 5, 6, 7] rfl (S.drop (by repeat (first | exact AHeap.le.refl _ | refine AHeap.le.set ?_ _ (by (repeat' (first | assumption)); first | done | fail))) (ih (i + 1) (by omega) hs))
    | false =>
      repeat' (first | refine S.nilK ?_ | (refine S.op rfl ?_; first | refine R.indexAddr rfl rfl (by omega) h1 ?_ | refine callS rfl rfl (c22 _) ?_ | refine R.mv rfl ?_ | refine R.loadR rfl rfl ?_ | refine R.load (by decide) rfl (by (repeat' (first | exact AHeap.set_same _ _ _)); first | done | fail) rfl ?_ | refine R.not rfl ?_ | refine R.alloc rfl (fun b hb => ?_) | ((first | refine S.lss rfl rfl ?_ ?_) <;> intro hlt <;> try (exfalso; omega))) | (refine S.op0 rfl ?_; first | refine S.storeS rfl rfl rfl (by rfl) rfl (by first | decide | exact Nat.le_refl _ | exact Nat.le_of_ble_eq_true rfl) ?_) | refine S.seq ?_ | refine S.region ?_ | refine S.condT rfl ?_ | refine RRun.skip ?_ | refine RRun.block ?_)
      apply S.ret rr9
      case hx => repeat (first | exact ResAt.nil | apply ResAt.tmp rfl)
      exact hf (hall rfl) _ (by repeat (first | exact AHeap.le.refl _ | refine AHeap.le.set ?_ _ (by (repeat' (first | assumption)); first | done | fail)))
theorem exprs_spec (l : List Ex) (hl : l.length ≤ 9223372036854775807) (hr : ∀ e ∈ l, e.ok) (h : AHeap) : ACalls Try.prog 9 [exprs l] h (fun x h' => x = bl (lights l) ∧ h' = h) := by
  obtain ⟨c', hc1, hc2⟩ := res9
  refine ACalls.weak (ACalls.enter Try.func9 hc1 Try.ntmps9 hc2 (Nat.le_of_ble_eq_true rfl) rfl ?_)
  have hlen : (l.map Ex.cells).length = l.length := by simp
  repeat' (first | refine S.nilK ?_ | (refine S.op rfl ?_; first | refine R.mv rfl ?_ | refine R.len rfl ?_) | refine S.seq ?_ | refine S.region ?_ | refine RRun.block ?_)
  rw [hlen]
  refine RRun.loopIn (S.keep [0, 5, 6, 7] rfl (exprs_loop l hl hr h _ _ (fun ha => ?_) (fun hf h' hh => ⟨_, h, .refl _, hh, by rw [hf], rfl⟩) l.length 0 (by omega) rfl))
  repeat' (first | refine S.nilK ?_ | (refine S.op rfl ?_; first | refine R.mv rfl ?_ | refine R.len rfl ?_ | ((first | refine S.leq rfl rfl ?_ ?_) <;> intro hlt <;> try (exfalso; omega))) | refine S.seq ?_ | refine S.region ?_)
  all_goals
    apply S.ret rr9
    case hx => repeat (first | exact ResAt.nil | apply ResAt.tmp rfl)
    exact ⟨_, h, .refl _, (by repeat (first | exact AHeap.le.refl _)), bl_eq (by unfold lights; rw [ha, Bool.true_and]; first | exact (decide_eq_true (by omega)).symm | exact (decide_eq_false (by omega)).symm), rfl⟩
end Go.Proofs.Ythadifboeggnpaa

namespace Go.Proofs.Ythadifboeggnpaa
open Go.Av
def finishF (op : Int) (a b : Val) : Val × Int :=
  if op = 19 then (truth (decide (a.kind = 0)), 0) else if compares op = true then (compareF op a b, 0) else applyF op (whole a) (whole b)
def evalArgs (f : Ex → Val × Int) (op : Int) : List Ex → Val × Int
  | [x] => if (f x).2 = 0 then finishF op (f x).1 vz else (vz, (f x).2)
  | [x, y] => if (f x).2 = 0 then (if (f y).2 = 0 then finishF op (f x).1 (f y).1 else (vz, (f y).2)) else (vz, (f x).2)
  | _ => (vz, 0)
def evalN : Nat → Ex → Row → Val × Int
  | 0, _, _ => (vz, 220)
  | d + 1, .mk op t nm n v args, r =>
    if ¬ (parts op = args.length) ∨ op = 2 ∨ sums op = true then (vz, 220)
    else if op = 1 then (v, 0)
    else if op = 3 then (if n < 0 ∨ (r.length : Int) ≤ n then (vz, 0) else ((r[n.toNat]?).getD vz, 0))
    else evalArgs (fun e => evalN d e r) op args
theorem vz_ok : vz.ok := ⟨⟨by decide, by decide⟩, ⟨by decide, by decide⟩⟩
theorem truth_ok (b : Bool) : (truth b).ok := by cases b <;> exact ⟨⟨by decide, by decide⟩, ⟨by decide, by decide⟩⟩
theorem whole_ok {v : Val} (h : v.ok) : (whole v).ok := by unfold whole; split; exact h; exact vz_ok
theorem compareF_ok (op : Int) (a b : Val) : (compareF op a b).ok := by unfold compareF; split; exact vz_ok; exact truth_ok _
theorem ite_ok {p : Prop} [Decidable p] {a b : Val} (ha : a.ok) (hb : b.ok) : (if p then a else b).ok := by
  by_cases h : p
  · rw [if_pos h]; exact ha
  · rw [if_neg h]; exact hb
theorem bothF_ok (o : Bool) (a b : Val) : (bothF o a b).ok := ite_ok (truth_ok _) (ite_ok vz_ok (truth_ok _))
theorem applyF_ok {op : Int} {a b : Val} (ha : Fits a.n) : (applyF op a b).1.ok := by
  unfold applyF
  split
  · split
    · exact vz_ok
    · exact truth_ok _
  · split
    · exact bothF_ok _ _ _
    · split
      · exact vz_ok
      · split
        · exact ⟨⟨show (-9223372036854775808 : Int) ≤ 1 by decide, show (1 : Int) ≤ 9223372036854775807 by decide⟩, reckonF_fits ha⟩
        · split <;> exact vz_ok
theorem finishF_ok {op : Int} {a b : Val} (ha : a.ok) : (finishF op a b).1.ok := by
  unfold finishF
  split
  · exact truth_ok _
  · split
    · exact compareF_ok _ _ _
    · exact applyF_ok (whole_ok ha).2
theorem evalArgs_ok {f : Ex → Val × Int} {op : Int} : ∀ (l : List Ex), (∀ e ∈ l, (f e).1.ok) → (evalArgs f op l).1.ok
  | [], _ => vz_ok
  | [x], h => by
    simp only [evalArgs]
    split
    · exact finishF_ok (h x (by simp))
    · exact vz_ok
  | [x, y], h => by
    simp only [evalArgs]
    split
    · split
      · exact finishF_ok (h x (by simp))
      · exact vz_ok
    · exact vz_ok
  | _ :: _ :: _ :: _, _ => vz_ok
theorem evalN_ok : ∀ (d : Nat) (e : Ex) (r : Row), e.ok → (∀ v ∈ r, v.ok) → (evalN d e r).1.ok
  | 0, _, _, _, _ => vz_ok
  | d + 1, .mk op t nm n v args, r, he, hr => by
    rw [Ex.ok] at he
    obtain ⟨-, -, hv, -, hl⟩ := he
    have hm := okL_mem hl
    rw [evalN]
    split
    · exact vz_ok
    · split
      · exact hv
      · split
        · split
          · exact vz_ok
          · cases hx : r[n.toNat]? with
            | none => exact vz_ok
            | some x => exact hr x (List.mem_of_getElem? hx)
        · exact evalArgs_ok args fun e he => evalN_ok d e r (hm e he) hr
def r35l0 : RCode :=
  (.seq (.region [
    ⟨(some 57), none, .act, .bin .lss (.tmp 56) (.tmp 55)⟩])
  (.seq (.cond (.tmp 57)
   .skip
   (.exit 1))
  (.seq (.block 2
   (.seq (.region [
     ⟨(some 58), none, .act, .mv (.tmp 56)⟩,
     ⟨(some 59), none, .act, .indexAddr 8 (.tmp 54) (.tmp 56)⟩,
     ⟨(some 60), none, .act, .load true 8 (.tmp 59)⟩,
     ⟨(some 8), none, .act, .alloc [(.int .i64 0), (.string ⟨#[]⟩), (.string ⟨#[]⟩), (.int .i64 0), (.int .i64 0), (.int .i64 0), (.string ⟨#[]⟩), (.slice none 0 0)]⟩,
     ⟨(some 7), none, .act, .mv (.tmp 58)⟩,
     ⟨none, none, .act, .store 8 (.tmp 8) (.tmp 60)⟩])
   (.seq (.region [
     ⟨(some 62), none, .act, .load true 8 (.tmp 8)⟩,
     ⟨(some 63), none, .act, .mv (.tmp 1)⟩,
     ⟨(some 64), none, .act, .call 35 [(.tmp 62), (.tmp 63)]⟩,
     ⟨(some 61), none, .act, .mv (.tmp 64)⟩,
     ⟨(some 65), none, .act, .extract (.tmp 61) 0⟩,
     ⟨(some 66), none, .act, .extract (.tmp 61) 1⟩,
     ⟨(some 9), none, .act, .alloc [(.int .i64 0), (.int .i64 0), (.string ⟨#[]⟩)]⟩,
     ⟨none, none, .act, .store 3 (.tmp 9) (.tmp 65)⟩,
     ⟨(some 10), none, .act, .mv (.tmp 66)⟩])
   (.seq (.seq (.region [
     ⟨(some 67), none, .act, .mv (.tmp 10)⟩,
     ⟨(some 68), none, .act, .eq true .int (.tmp 67) (.const (.int .i64 0))⟩])
   (.cond (.tmp 68)
    (.seq (.region [
      ⟨(some 69), none, .act, .build [(.int .i64 0), (.int .i64 0), (.string ⟨#[]⟩)] []⟩,
      ⟨(some 70), none, .act, .mv (.tmp 10)⟩,
      ⟨none, none, .act, .store 3 (.tmp 4) (.tmp 69)⟩,
      ⟨(some 5), none, .act, .mv (.tmp 70)⟩])
    .ret)
    .skip))
   (.region [
     ⟨(some 71), none, .act, .mv (.tmp 7)⟩,
     ⟨(some 72), none, .act, .load true 3 (.tmp 9)⟩,
     ⟨(some 73), none, .act, .indexArr 2 3 (.tmp 6) (.tmp 71)⟩,
     ⟨none, none, .act, .store 3 (.tmp 73) (.tmp 72)⟩])))))
  (.region [
    ⟨(some 74), none, .act, .bin .add (.tmp 56) (.const (.int .i64 1))⟩,
    ⟨(some 56), none, .act, .mv (.tmp 74)⟩]))))
def r35 : RCode :=
  (.seq (.region [
    ⟨(some 2), none, .act, .box (.tmp 0)⟩,
    ⟨(some 4), none, .act, .alloc [(.int .i64 0), (.int .i64 0), (.string ⟨#[]⟩)]⟩,
    ⟨(some 5), none, .act, .mv (.const (.int .i64 0))⟩])
  (.seq (.seq (.region [
    ⟨(some 11), none, .pure, .fieldAddr 0 (.tmp 2)⟩,
    ⟨(some 12), none, .read, .load false 1 (.tmp 11)⟩,
    ⟨(some 13), none, .read, .call 43 [(.tmp 12)]⟩,
    ⟨(some 14), none, .pure, .fieldAddr 7 (.tmp 2)⟩,
    ⟨(some 15), none, .read, .load false 1 (.tmp 14)⟩,
    ⟨(some 16), none, .pure, .len (.tmp 15)⟩,
    ⟨(some 17), none, .pure, .eq true .int (.tmp 13) (.tmp 16)⟩,
    ⟨(some 18), none, .pure, .mv (.tmp 17)⟩,
    ⟨(some 19), (some (18, false)), .pure, .fieldAddr 0 (.tmp 2)⟩,
    ⟨(some 20), (some (18, false)), .read, .load false 1 (.tmp 19)⟩,
    ⟨(some 21), (some (18, false)), .pure, .eq false .int (.tmp 20) (.const (.int .i64 2))⟩,
    ⟨(some 22), none, .pure, .pick (.tmp 18) (.const (.bool true)) (.tmp 21)⟩,
    ⟨(some 23), none, .pure, .mv (.tmp 22)⟩,
    ⟨(some 24), (some (23, false)), .pure, .fieldAddr 0 (.tmp 2)⟩,
    ⟨(some 25), (some (23, false)), .read, .load false 1 (.tmp 24)⟩,
    ⟨(some 26), (some (23, false)), .act, .call 44 [(.tmp 25)]⟩,
    ⟨(some 27), none, .pure, .pick (.tmp 23) (.const (.bool true)) (.tmp 26)⟩])
  (.cond (.tmp 27)
   (.seq (.region [
     ⟨(some 28), none, .act, .build [(.int .i64 0), (.int .i64 0), (.string ⟨#[]⟩)] []⟩,
     ⟨none, none, .act, .store 3 (.tmp 4) (.tmp 28)⟩,
     ⟨(some 5), none, .act, .mv (.const (.int .i64 220))⟩])
   .ret)
   .skip))
  (.seq (.seq (.region [
    ⟨(some 29), none, .act, .fieldAddr 0 (.tmp 2)⟩,
    ⟨(some 30), none, .act, .load false 1 (.tmp 29)⟩])
  (.block 0
   (.seq (.region [
     ⟨(some 32), none, .act, .eq false .int (.tmp 30) (.const (.int .i64 1))⟩,
     ⟨(some 31), none, .act, .mv (.tmp 32)⟩])
   (.cond (.tmp 31)
    (.seq (.region [
      ⟨(some 33), none, .act, .fieldAddr 4 (.tmp 2)⟩,
      ⟨(some 34), none, .act, .load true 3 (.tmp 33)⟩,
      ⟨none, none, .act, .store 3 (.tmp 4) (.tmp 34)⟩,
      ⟨(some 5), none, .act, .mv (.const (.int .i64 0))⟩])
    .ret)
    (.seq (.region [
      ⟨(some 36), none, .act, .eq false .int (.tmp 30) (.const (.int .i64 3))⟩,
      ⟨(some 35), none, .act, .mv (.tmp 36)⟩])
    (.cond (.tmp 35)
     (.seq (.seq (.region [
       ⟨(some 37), none, .act, .fieldAddr 3 (.tmp 2)⟩,
       ⟨(some 38), none, .act, .load false 1 (.tmp 37)⟩,
       ⟨(some 39), none, .act, .bin .lss (.tmp 38) (.const (.int .i64 0))⟩,
       ⟨(some 40), none, .act, .mv (.tmp 39)⟩,
       ⟨(some 41), (some (40, false)), .act, .fieldAddr 3 (.tmp 2)⟩,
       ⟨(some 42), (some (40, false)), .act, .load false 1 (.tmp 41)⟩,
       ⟨(some 43), (some (40, false)), .act, .mv (.tmp 1)⟩,
       ⟨(some 44), (some (40, false)), .act, .len (.tmp 43)⟩,
       ⟨(some 45), (some (40, false)), .act, .bin .geq (.tmp 42) (.tmp 44)⟩,
       ⟨(some 46), none, .act, .pick (.tmp 40) (.const (.bool true)) (.tmp 45)⟩])
     (.cond (.tmp 46)
      (.seq (.region [
        ⟨(some 47), none, .act, .build [(.int .i64 0), (.int .i64 0), (.string ⟨#[]⟩)] []⟩,
        ⟨none, none, .act, .store 3 (.tmp 4) (.tmp 47)⟩,
        ⟨(some 5), none, .act, .mv (.const (.int .i64 0))⟩])
      .ret)
      .skip))
     (.seq (.region [
       ⟨(some 48), none, .act, .mv (.tmp 1)⟩,
       ⟨(some 49), none, .act, .fieldAddr 3 (.tmp 2)⟩,
       ⟨(some 50), none, .act, .load false 1 (.tmp 49)⟩,
       ⟨(some 51), none, .act, .indexAddr 3 (.tmp 48) (.tmp 50)⟩,
       ⟨(some 52), none, .act, .load true 3 (.tmp 51)⟩,
       ⟨none, none, .act, .store 3 (.tmp 4) (.tmp 52)⟩,
       ⟨(some 5), none, .act, .mv (.const (.int .i64 0))⟩])
     .ret))
     .skip))))))
  (.seq (.region [
    ⟨(some 6), none, .act, .alloc [(.int .i64 0), (.int .i64 0), (.string ⟨#[]⟩), (.int .i64 0), (.int .i64 0), (.string ⟨#[]⟩)]⟩])
  (.seq (.seq (.region [
    ⟨(some 53), none, .act, .fieldAddr 7 (.tmp 2)⟩,
    ⟨(some 54), none, .act, .load false 1 (.tmp 53)⟩,
    ⟨(some 55), none, .act, .len (.tmp 54)⟩,
    ⟨(some 56), none, .act, .mv (.const (.int .i64 0))⟩])
  (.block 1
   (.loop r35l0)))
  (.seq (.seq (.region [
    ⟨(some 75), none, .act, .fieldAddr 0 (.tmp 2)⟩,
    ⟨(some 76), none, .act, .load false 1 (.tmp 75)⟩,
    ⟨(some 77), none, .act, .eq false .int (.tmp 76) (.const (.int .i64 19))⟩])
  (.cond (.tmp 77)
   (.seq (.region [
     ⟨(some 78), none, .act, .indexArr 2 3 (.tmp 6) (.const (.int .i64 0))⟩,
     ⟨(some 79), none, .act, .fieldAddr 0 (.tmp 78)⟩,
     ⟨(some 80), none, .act, .load false 1 (.tmp 79)⟩,
     ⟨(some 81), none, .act, .eq false .int (.tmp 80) (.const (.int .i64 0))⟩,
     ⟨(some 82), none, .act, .call 45 [(.tmp 81)]⟩,
     ⟨none, none, .act, .store 3 (.tmp 4) (.tmp 82)⟩,
     ⟨(some 5), none, .act, .mv (.const (.int .i64 0))⟩])
   .ret)
   .skip))
  (.seq (.seq (.region [
    ⟨(some 83), none, .act, .fieldAddr 0 (.tmp 2)⟩,
    ⟨(some 84), none, .act, .load false 1 (.tmp 83)⟩,
    ⟨(some 85), none, .act, .call 46 [(.tmp 84)]⟩])
  (.cond (.tmp 85)
   (.seq (.region [
     ⟨(some 86), none, .act, .fieldAddr 0 (.tmp 2)⟩,
     ⟨(some 87), none, .act, .load false 1 (.tmp 86)⟩,
     ⟨(some 88), none, .act, .indexArr 2 3 (.tmp 6) (.const (.int .i64 0))⟩,
     ⟨(some 89), none, .act, .load true 3 (.tmp 88)⟩,
     ⟨(some 90), none, .act, .indexArr 2 3 (.tmp 6) (.const (.int .i64 1))⟩,
     ⟨(some 91), none, .act, .load true 3 (.tmp 90)⟩,
     ⟨(some 92), none, .act, .call 47 [(.tmp 87), (.tmp 89), (.tmp 91)]⟩,
     ⟨none, none, .act, .store 3 (.tmp 4) (.tmp 92)⟩,
     ⟨(some 5), none, .act, .mv (.const (.int .i64 0))⟩])
   .ret)
   .skip))
  (.seq (.region [
    ⟨(some 93), none, .pure, .fieldAddr 0 (.tmp 2)⟩,
    ⟨(some 94), none, .read, .load false 1 (.tmp 93)⟩,
    ⟨(some 95), none, .pure, .indexArr 2 3 (.tmp 6) (.const (.int .i64 0))⟩,
    ⟨(some 96), none, .read, .load true 3 (.tmp 95)⟩,
    ⟨(some 97), none, .read, .call 49 [(.tmp 96)]⟩,
    ⟨(some 98), none, .pure, .indexArr 2 3 (.tmp 6) (.const (.int .i64 1))⟩,
    ⟨(some 99), none, .read, .load true 3 (.tmp 98)⟩,
    ⟨(some 100), none, .read, .call 49 [(.tmp 99)]⟩,
    ⟨(some 101), none, .act, .call 48 [(.tmp 94), (.tmp 97), (.tmp 100)]⟩,
    ⟨(some 102), none, .pure, .extract (.tmp 101) 0⟩,
    ⟨(some 103), none, .pure, .extract (.tmp 101) 1⟩,
    ⟨none, none, .act, .store 3 (.tmp 4) (.tmp 102)⟩,
    ⟨(some 5), none, .pure, .mv (.tmp 103)⟩])
  .ret))))))))
theorem res35 : ∃ c, Try.f35.body = some c ∧ resCode Try.prog 104 c = some r35 := ⟨_, rfl, by kernel_rfl⟩
theorem rr35 : resRes Try.prog Try.f35.results.toList = some [.cell 4 true 3, .tmp 5] := by kernel_rfl
theorem eval_bad (op : Int) (t nm : List UInt8) (n vk vn : Int) (vs : List UInt8) (args : List Ex) (hal : args.length ≤ 1000) (r : Row) (hb : ¬ (parts op = args.length) ∨ op = 2 ∨ sums op = true) (h : AHeap) :
    ACalls Try.prog 35 [.ag [i64 op, str t, str nm, i64 n, i64 vk, i64 vn, str vs, exprs args], rowA r] h (fun x h' => x = resA (vz, 220) ∧ h' = h) := by
  have hlen : (args.map Ex.cells).length = args.length := by simp
  have c44 := fun h => sums_spec op h
  obtain ⟨c', hc1, hc2⟩ := res35
  refine ACalls.weak (ACalls.enter Try.func35 hc1 Try.ntmps35 hc2 (Nat.le_of_ble_eq_true rfl) rfl ?_)
  cases hs : sums op with
  | true =>
    rw [hs] at c44
    repeat' (first | refine S.nilK ?_ | (refine S.op rfl ?_; first | refine R.callQ (by decide) rfl (parts_spec _ _) ?_ | refine R.callQ (by decide) rfl (c44 _) ?_ | refine R.mv rfl ?_ | refine R.fieldAddr rfl ?_ | refine R.load (by decide) rfl (by (repeat' (first | exact AHeap.set_same _ _ _ | refine AHeap.get_fresh ‹_› ?_)); first | done | fail) rfl ?_ | refine R.pickT rfl rfl ?_ | refine R.pickF rfl rfl ?_ | refine R.len rfl ?_ | refine R.alloc rfl (fun b hb => ?_) | refine R.box rfl rfl rfl (fun b hb => ?_) | refine R.build rfl rfl ?_ | ((first | refine S.eqInt rfl rfl ?_ ?_) <;> intro hlt <;> try (exfalso; omega))) | (refine S.op0 rfl ?_; first | refine S.storeS rfl rfl rfl (by rfl) rfl (by first | decide | exact Nat.le_refl _ | exact Nat.le_of_ble_eq_true rfl) ?_) | refine S.skip rfl ?_ | refine S.seq ?_ | refine S.region ?_ | refine S.condT rfl ?_)
    all_goals
      apply S.ret rr35
      case hx => repeat (first | exact ResAt.nil | apply ResAt.tmp rfl | apply ResAt.cellA rfl (by (repeat' (first | exact AHeap.set_same _ _ _)); first | done | fail) (by rfl))
      exact ⟨_, h, .refl _, (by repeat (first | exact AHeap.le.refl _ | refine AHeap.le.set ?_ _ (by (repeat' (first | assumption | exact AHeap.z1 ‹_›)); first | done | fail))), rfl, rfl⟩
  | false =>
    rw [hs] at c44 hb
    have hb' : ¬ (parts op = args.length) ∨ op = 2 := by rcases hb with h | h | h; exact .inl h; exact .inr h; cases h
    repeat' (first | refine S.nilK ?_ | (refine S.op rfl ?_; first | refine R.callQ (by decide) rfl (parts_spec _ _) ?_ | refine R.mv rfl ?_ | refine R.fieldAddr rfl ?_ | refine R.load (by decide) rfl (by (repeat' (first | exact AHeap.set_same _ _ _ | refine AHeap.get_fresh ‹_› ?_)); first | done | fail) rfl ?_ | refine R.pickT rfl rfl ?_ | refine R.pickF rfl rfl ?_ | refine R.len rfl ?_ | refine R.alloc rfl (fun b hb => ?_) | refine R.box rfl rfl rfl (fun b hb => ?_) | refine R.build rfl rfl ?_ | ((first | refine S.eqInt rfl rfl ?_ ?_) <;> intro hlt <;> try (exfalso; omega))) | (refine S.op0 rfl ?_; first | refine S.storeS rfl rfl rfl (by rfl) rfl (by first | decide | exact Nat.le_refl _ | exact Nat.le_of_ble_eq_true rfl) ?_) | refine S.skip rfl ?_ | refine S.seq ?_ | refine S.region ?_ | refine S.condT rfl ?_)
    all_goals
      apply S.ret rr35
      case hx => repeat (first | exact ResAt.nil | apply ResAt.tmp rfl | apply ResAt.cellA rfl (by (repeat' (first | exact AHeap.set_same _ _ _)); first | done | fail) (by rfl))
      exact ⟨_, h, .refl _, (by repeat (first | exact AHeap.le.refl _ | refine AHeap.le.set ?_ _ (by (repeat' (first | assumption | exact AHeap.z1 ‹_›)); first | done | fail))), rfl, rfl⟩
theorem eval_lit (t nm : List UInt8) (n vk vn : Int) (vs : List UInt8) (r : Row) (h : AHeap) :
    ACalls Try.prog 35 [.ag [i64 1, str t, str nm, i64 n, i64 vk, i64 vn, str vs, exprs []], rowA r] h (fun x h' => x = resA (⟨vk, vn, vs⟩, 0) ∧ h' = h) := by
  have c44 : ∀ h, ACalls Try.prog 44 [i64 1] h (fun x h' => x = bl false ∧ h' = h) := fun h => sums_spec 1 h
  have c43 : ∀ h, ACalls Try.prog 43 [i64 1] h (fun x h' => x = i64 0 ∧ h' = h) := fun h => parts_spec 1 h
  have hlen : (([] : List Ex).map Ex.cells).length = 0 := rfl
  obtain ⟨c', hc1, hc2⟩ := res35
  refine ACalls.weak (ACalls.enter Try.func35 hc1 Try.ntmps35 hc2 (Nat.le_of_ble_eq_true rfl) rfl ?_)
  repeat' (first | refine S.nilK ?_ | (refine S.op rfl ?_; first | refine R.callQ (by decide) rfl (c43 _) ?_ | refine R.callQ (by decide) rfl (c44 _) ?_ | refine R.mv rfl ?_ | refine R.fieldAddr rfl ?_ | refine R.load (by decide) rfl (by (repeat' (first | exact AHeap.set_same _ _ _ | refine AHeap.get_fresh ‹_› ?_)); first | done | fail) rfl ?_ | refine R.pickF rfl rfl ?_ | refine R.len rfl ?_ | refine R.alloc rfl (fun b hb => ?_) | refine R.box rfl rfl rfl (fun b hb => ?_) | ((first | refine S.eqInt rfl rfl ?_ ?_) <;> intro hlt <;> try (exfalso; omega))) | (refine S.op0 rfl ?_; first | refine S.storeS rfl rfl rfl (by rfl) rfl (by first | decide | exact Nat.le_refl _ | exact Nat.le_of_ble_eq_true rfl) ?_) | refine S.seq ?_ | refine S.region ?_ | refine S.condT rfl ?_ | refine S.condF rfl ?_ | refine RRun.skip ?_ | refine RRun.block ?_)
  apply S.ret rr35
  case hx => repeat (first | exact ResAt.nil | apply ResAt.tmp rfl | apply ResAt.cellA rfl (by (repeat' (first | exact AHeap.set_same _ _ _)); first | done | fail) (by rfl))
  exact ⟨_, h, .refl _, (by repeat (first | exact AHeap.le.refl _ | refine AHeap.le.set ?_ _ (by (repeat' (first | assumption | exact AHeap.z1 ‹_›)); first | done | fail))), rfl, rfl⟩
theorem eval_pos (t nm : List UInt8) (n vk vn : Int) (vs : List UInt8) (r : Row) (hr : r.length ≤ 9223372036854775807) (h : AHeap) :
    ACalls Try.prog 35 [.ag [i64 3, str t, str nm, i64 n, i64 vk, i64 vn, str vs, exprs []], rowA r] h (fun x h' => x = resA (if n < 0 ∨ (r.length : Int) ≤ n then (vz, 0) else ((r[n.toNat]?).getD vz, 0)) ∧ h' = h) := by
  have c44 : ∀ h, ACalls Try.prog 44 [i64 3] h (fun x h' => x = bl false ∧ h' = h) := fun h => sums_spec 3 h
  have c43 : ∀ h, ACalls Try.prog 43 [i64 3] h (fun x h' => x = i64 0 ∧ h' = h) := fun h => parts_spec 3 h
  have hlen : (([] : List Ex).map Ex.cells).length = 0 := rfl
  have hlr : (r.map Val.cells).length = r.length := by simp
  obtain ⟨c', hc1, hc2⟩ := res35
  refine ACalls.weak (ACalls.enter Try.func35 hc1 Try.ntmps35 hc2 (Nat.le_of_ble_eq_true rfl) rfl ?_)
  by_cases hn : n < 0 ∨ (r.length : Int) ≤ n
  · rw [if_pos hn]
    repeat' (first | refine S.nilK ?_ | (refine S.op rfl ?_; first | refine R.callQ (by decide) rfl (c43 _) ?_ | refine R.callQ (by decide) rfl (c44 _) ?_ | refine R.mv rfl ?_ | refine R.fieldAddr rfl ?_ | refine R.load (by decide) rfl (by (repeat' (first | exact AHeap.set_same _ _ _ | refine AHeap.get_fresh ‹_› ?_)); first | done | fail) rfl ?_ | refine R.pickT rfl rfl ?_ | refine R.pickF rfl rfl ?_ | refine R.len rfl ?_ | refine R.alloc rfl (fun b hb => ?_) | refine R.box rfl rfl rfl (fun b hb => ?_) | refine R.build rfl rfl ?_ | ((first | refine S.lss rfl rfl ?_ ?_ | refine S.geq rfl rfl ?_ ?_ | refine S.eqInt rfl rfl ?_ ?_) <;> intro hlt <;> try (exfalso; omega))) | (refine S.op0 rfl ?_; first | refine S.storeS rfl rfl rfl (by rfl) rfl (by first | decide | exact Nat.le_refl _ | exact Nat.le_of_ble_eq_true rfl) ?_) | refine S.skip rfl ?_ | refine S.seq ?_ | refine S.region ?_ | refine S.condT rfl ?_ | refine S.condF rfl ?_ | refine RRun.skip ?_ | refine RRun.block ?_)
    all_goals
      apply S.ret rr35
      case hx => repeat (first | exact ResAt.nil | apply ResAt.tmp rfl | apply ResAt.cellA rfl (by (repeat' (first | exact AHeap.set_same _ _ _)); first | done | fail) (by rfl))
      exact ⟨_, h, .refl _, (by repeat (first | exact AHeap.le.refl _ | refine AHeap.le.set ?_ _ (by (repeat' (first | assumption | exact AHeap.z1 ‹_›)); first | done | fail))), rfl, rfl⟩
  · rw [if_neg hn]
    have hlt2 : n.toNat < r.length := by omega
    have h1 : (r.map Val.cells)[n.toNat]? = some [i64 r[n.toNat].kind, i64 r[n.toNat].n, str r[n.toNat].s] := by simp [hlt2]; rfl
    rw [List.getElem?_eq_getElem hlt2, Option.getD_some]
    generalize r[n.toNat] = v at h1 ⊢
    repeat' (first | refine S.nilK ?_ | (refine S.op rfl ?_; first | refine R.callQ (by decide) rfl (c43 _) ?_ | refine R.callQ (by decide) rfl (c44 _) ?_ | refine R.indexAddr rfl rfl (by omega) h1 ?_ | refine R.mv rfl ?_ | refine R.fieldAddr rfl ?_ | refine R.loadR rfl rfl ?_ | refine R.load (by decide) rfl (by (repeat' (first | exact AHeap.set_same _ _ _ | refine AHeap.get_fresh ‹_› ?_)); first | done | fail) rfl ?_ | refine R.pickF rfl rfl ?_ | refine R.len rfl ?_ | refine R.alloc rfl (fun b hb => ?_) | refine R.box rfl rfl rfl (fun b hb => ?_) | ((first | refine S.lss rfl rfl ?_ ?_ | refine S.geq rfl rfl ?_ ?_ | refine S.eqInt rfl rfl ?_ ?_) <;> intro hlt <;> try (exfalso; omega))) | (refine S.op0 rfl ?_; first | refine S.storeS rfl rfl rfl (by rfl) rfl (by first | decide | exact Nat.le_refl _ | exact Nat.le_of_ble_eq_true rfl) ?_) | refine S.seq ?_ | refine S.region ?_ | refine S.condT rfl ?_ | refine S.condF rfl ?_ | refine RRun.skip ?_ | refine RRun.block ?_)
    apply S.ret rr35
    case hx => repeat (first | exact ResAt.nil | apply ResAt.tmp rfl | apply ResAt.cellA rfl (by (repeat' (first | exact AHeap.set_same _ _ _)); first | done | fail) (by rfl))
    exact ⟨_, h, .refl _, (by repeat (first | exact AHeap.le.refl _ | refine AHeap.le.set ?_ _ (by (repeat' (first | assumption | exact AHeap.z1 ‹_›)); first | done | fail))), rfl, rfl⟩
set_option maxHeartbeats 1000000 in
theorem eval_one (op : Int) (hop : parts op = 1) (hs : sums op = false) (t nm : List UInt8) (n vk vn : Int) (vs : List UInt8) (x : Ex) (r : Row) (p : Val × Int) (hp : p.1.ok) (c35 : ∀ h, ACalls Try.prog 35 [.ag x.cells, rowA r] h (fun y h' => y = resA p ∧ h' = h)) (h : AHeap) :
    ACalls Try.prog 35 [.ag [i64 op, str t, str nm, i64 n, i64 vk, i64 vn, str vs, exprs [x]], rowA r] h (fun y h' => y = resA (if p.2 = 0 then finishF op p.1 vz else (vz, p.2)) ∧ h' = h) := by
  have h1 : op ≠ 1 := fun e => by subst e; simp [parts] at hop
  have h2 : op ≠ 2 := fun e => by subst e; simp [parts] at hop
  have h3 : op ≠ 3 := fun e => by subst e; simp [parts] at hop
  have c44 := fun h => sums_spec op h
  rw [hs] at c44
  have c43 := fun h => parts_spec op h
  rw [hop] at c43
  have c46 := fun h => compares_spec op h
  have hlen : ([x].map Ex.cells).length = 1 := rfl
  have g0 : ([x].map Ex.cells)[(0 : Int).toNat]? = some x.cells := rfl
  obtain ⟨pv, pe⟩ := p
  simp only at hp ⊢
  have c47 := fun h => compare_spec op pv vz h
  have c49 := fun h => whole_spec pv h
  have c49z := fun h => whole_spec vz h
  have c48 := fun h => apply_spec op (whole pv) (whole vz) (whole_ok hp).2 (whole_ok vz_ok).2 h
  obtain ⟨c', hc1, hc2⟩ := res35
  refine ACalls.weak (ACalls.enter Try.func35 hc1 Try.ntmps35 hc2 (Nat.le_of_ble_eq_true rfl) rfl ?_)
  by_cases hpe : pe = 0
  · subst hpe
    rw [if_pos rfl]
    obtain ⟨op', t', nm', n', ⟨vk', vn', vs'⟩, args'⟩ := x
    rw [cells_mk] at g0 c35
    unfold finishF
    by_cases h19 : op = 19
    · rw [if_pos h19]
      subst h19
      have c45 := fun b h => truth_spec b h
      repeat' (first | ((show RRunG _ _ _ (.code (.loop _) :: _) _ _ _; refine RRun.loopIn ?_)) | ((show RRunG _ _ _ (.inLoop r35l0 :: _) _ _ _; refine RRun.inLoop ?_)) | refine S.nilK ?_ | (refine S.op rfl ?_; first | refine R.callQ (by decide) rfl (c43 _) ?_ | refine R.callQ (by decide) rfl (c44 _) ?_ | refine R.indexArr rfl rfl (by omega) (by omega) ?_ | refine R.indexAddr rfl rfl (by omega) g0 ?_ | refine callS rfl rfl (c35 _) ?_ | refine callS rfl rfl (c45 _ _) ?_ | refine S.eqIntSame (a := 19) rfl rfl ?_ | refine R.mv rfl ?_ | refine R.fieldAddr rfl ?_ | refine R.loadR rfl rfl ?_ | refine R.load (by decide) rfl (by (repeat' (first | exact AHeap.set_same _ _ _ | refine AHeap.get_fresh ‹_› ?_ | refine AHeap.so ?_ ?_ | exact AHeap.n6 ‹_›)); first | done | fail) rfl ?_ | refine S.addI rfl rfl (by omega) ?_ | refine R.pickF rfl rfl ?_ | refine R.len rfl ?_ | refine R.extract rfl rfl ?_ | refine R.alloc rfl (fun b hb => ?_) | refine R.box rfl rfl rfl (fun b hb => ?_) | ((first | refine S.lss rfl rfl ?_ ?_ | refine S.eqInt rfl rfl ?_ ?_) <;> intro hlt <;> try (exfalso; omega))) | (refine S.op0 rfl ?_; first | refine S.storeS rfl rfl rfl (by rfl) rfl (by first | decide | exact Nat.le_refl _ | exact Nat.le_of_ble_eq_true rfl) ?_ | refine S.store rfl rfl (by (repeat' (first | exact AHeap.set_same _ _ _ | refine AHeap.get_fresh ‹_› ?_ | refine AHeap.so ?_ ?_ | exact AHeap.n2 ‹_›)); first | done | fail) rfl rfl rfl (by rfl) rfl ?_) | refine S.seq ?_ | refine S.region ?_ | refine S.condT rfl ?_ | refine S.condF rfl ?_ | refine RRun.skip ?_ | refine RRun.block ?_ | refine RRun.inBlock ?_ | refine RRun.exit rfl ?_)
      all_goals
        apply S.ret rr35
        case hx => repeat (first | exact ResAt.nil | apply ResAt.tmp rfl | apply ResAt.cellA rfl (by (repeat' (first | exact AHeap.set_same _ _ _)); first | done | fail) (by rfl))
        refine ⟨_, h, .refl _, (by repeat (first | exact AHeap.le.refl _ | refine AHeap.le.set ?_ _ (by (repeat' (first | assumption | exact AHeap.z1 ‹_› | exact AHeap.z2 ‹_› | exact AHeap.z3 ‹_› | exact AHeap.z4 ‹_›)); first | done | fail))), ?_, rfl⟩
        first | exact congrArg resA (a₁ := (truth true, (0 : Int))) (congrArg (fun b => (truth b, (0 : Int))) (decide_eq_true (by omega)).symm) | exact congrArg resA (a₁ := (truth false, (0 : Int))) (congrArg (fun b => (truth b, (0 : Int))) (decide_eq_false (by omega)).symm)
    · rw [if_neg h19]
      cases hcm : compares op with
      | true =>
        rw [hcm] at c46
        rw [if_pos rfl]
        repeat' (first | ((show RRunG _ _ _ (.code (.loop _) :: _) _ _ _; refine RRun.loopIn ?_)) | ((show RRunG _ _ _ (.inLoop r35l0 :: _) _ _ _; refine RRun.inLoop ?_)) | refine S.nilK ?_ | (refine S.op rfl ?_; first | refine R.callQ (by decide) rfl (c43 _) ?_ | refine R.callQ (by decide) rfl (c44 _) ?_ | refine R.indexArr rfl rfl (by omega) (by omega) ?_ | refine R.callQ (by decide) rfl (c46 _) ?_ | refine R.indexAddr rfl rfl (by omega) g0 ?_ | refine callS rfl rfl (c35 _) ?_ | refine callS rfl rfl (c47 _) ?_ | refine R.mv rfl ?_ | refine R.fieldAddr rfl ?_ | refine R.loadR rfl rfl ?_ | refine R.load (by decide) rfl (by (repeat' (first | exact AHeap.set_same _ _ _ | refine AHeap.get_fresh ‹_› ?_ | refine AHeap.so ?_ ?_ | exact AHeap.n6 ‹_›)); first | done | fail) rfl ?_ | refine S.addI rfl rfl (by omega) ?_ | refine R.pickF rfl rfl ?_ | refine R.len rfl ?_ | refine R.extract rfl rfl ?_ | refine R.alloc rfl (fun b hb => ?_) | refine R.box rfl rfl rfl (fun b hb => ?_) | ((first | refine S.lss rfl rfl ?_ ?_ | refine S.eqInt rfl rfl ?_ ?_) <;> intro hlt <;> try (exfalso; omega))) | (refine S.op0 rfl ?_; first | refine S.storeS rfl rfl rfl (by rfl) rfl (by first | decide | exact Nat.le_refl _ | exact Nat.le_of_ble_eq_true rfl) ?_ | refine S.store rfl rfl (by (repeat' (first | exact AHeap.set_same _ _ _ | refine AHeap.get_fresh ‹_› ?_ | refine AHeap.so ?_ ?_ | exact AHeap.n2 ‹_›)); first | done | fail) rfl rfl rfl (by rfl) rfl ?_) | refine S.seq ?_ | refine S.region ?_ | refine S.condT rfl ?_ | refine S.condF rfl ?_ | refine RRun.skip ?_ | refine RRun.block ?_ | refine RRun.inBlock ?_ | refine RRun.exit rfl ?_)
        apply S.ret rr35
        case hx => repeat (first | exact ResAt.nil | apply ResAt.tmp rfl | apply ResAt.cellA rfl (by (repeat' (first | exact AHeap.set_same _ _ _)); first | done | fail) (by rfl))
        exact ⟨_, h, .refl _, (by repeat (first | exact AHeap.le.refl _ | refine AHeap.le.set ?_ _ (by (repeat' (first | assumption | exact AHeap.z1 ‹_› | exact AHeap.z2 ‹_› | exact AHeap.z3 ‹_› | exact AHeap.z4 ‹_›)); first | done | fail))), rfl, rfl⟩
      | false =>
        rw [hcm] at c46
        rw [if_neg (by simp)]
        generalize applyF op (whole pv) (whole vz) = ap at c48 ⊢
        generalize whole pv = wp at c48 c49 ⊢
        generalize whole vz = wz at c48 c49z ⊢
        repeat' (first | ((show RRunG _ _ _ (.code (.loop _) :: _) _ _ _; refine RRun.loopIn ?_)) | ((show RRunG _ _ _ (.inLoop r35l0 :: _) _ _ _; refine RRun.inLoop ?_)) | refine S.nilK ?_ | (refine S.op rfl ?_; first | refine R.callQ (by decide) rfl (c43 _) ?_ | refine R.callQ (by decide) rfl (c44 _) ?_ | refine R.indexArr rfl rfl (by omega) (by omega) ?_ | refine R.callQ (by decide) rfl (c46 _) ?_ | refine R.indexAddr rfl rfl (by omega) g0 ?_ | refine callS rfl rfl (c35 _) ?_ | refine R.callQ (by decide) rfl (c49 _) ?_ | refine R.callQ (by decide) rfl (c49z _) ?_ | refine callS rfl rfl (c48 _) ?_ | refine R.mv rfl ?_ | refine R.fieldAddr rfl ?_ | refine R.loadR rfl rfl ?_ | refine R.load (by decide) rfl (by (repeat' (first | exact AHeap.set_same _ _ _ | refine AHeap.get_fresh ‹_› ?_ | refine AHeap.so ?_ ?_ | exact AHeap.n6 ‹_›)); first | done | fail) rfl ?_ | refine S.addI rfl rfl (by omega) ?_ | refine R.pickF rfl rfl ?_ | refine R.len rfl ?_ | refine R.extract rfl rfl ?_ | refine R.alloc rfl (fun b hb => ?_) | refine R.box rfl rfl rfl (fun b hb => ?_) | ((first | refine S.lss rfl rfl ?_ ?_ | refine S.eqInt rfl rfl ?_ ?_) <;> intro hlt <;> try (exfalso; omega))) | (refine S.op0 rfl ?_; first | refine S.storeS rfl rfl rfl (by rfl) rfl (by first | decide | exact Nat.le_refl _ | exact Nat.le_of_ble_eq_true rfl) ?_ | refine S.store rfl rfl (by (repeat' (first | exact AHeap.set_same _ _ _ | refine AHeap.get_fresh ‹_› ?_ | refine AHeap.so ?_ ?_ | exact AHeap.n2 ‹_›)); first | done | fail) rfl rfl rfl (by rfl) rfl ?_) | refine S.seq ?_ | refine S.region ?_ | refine S.condT rfl ?_ | refine S.condF rfl ?_ | refine RRun.skip ?_ | refine RRun.block ?_ | refine RRun.inBlock ?_ | refine RRun.exit rfl ?_)
        apply S.ret rr35
        case hx => repeat (first | exact ResAt.nil | apply ResAt.tmp rfl | apply ResAt.cellA rfl (by (repeat' (first | exact AHeap.set_same _ _ _)); first | done | fail) (by rfl))
        exact ⟨_, h, .refl _, (by repeat (first | exact AHeap.le.refl _ | refine AHeap.le.set ?_ _ (by (repeat' (first | assumption | exact AHeap.z1 ‹_› | exact AHeap.z2 ‹_› | exact AHeap.z3 ‹_› | exact AHeap.z4 ‹_›)); first | done | fail))), rfl, rfl⟩
  · rw [if_neg hpe]
    obtain ⟨op', t', nm', n', ⟨vk', vn', vs'⟩, args'⟩ := x
    rw [cells_mk] at g0 c35
    repeat' (first | ((show RRunG _ _ _ (.code (.loop _) :: _) _ _ _; refine RRun.loopIn ?_)) | ((show RRunG _ _ _ (.inLoop r35l0 :: _) _ _ _; refine RRun.inLoop ?_)) | refine S.nilK ?_ | (refine S.op rfl ?_; first | refine R.callQ (by decide) rfl (c43 _) ?_ | refine R.callQ (by decide) rfl (c44 _) ?_ | refine R.indexAddr rfl rfl (by omega) g0 ?_ | refine callS rfl rfl (c35 _) ?_ | refine R.mv rfl ?_ | refine R.fieldAddr rfl ?_ | refine R.loadR rfl rfl ?_ | refine R.load (by decide) rfl (by (repeat' (first | exact AHeap.set_same _ _ _ | refine AHeap.get_fresh ‹_› ?_)); first | done | fail) rfl ?_ | refine R.pickF rfl rfl ?_ | refine R.len rfl ?_ | refine R.extract rfl rfl ?_ | refine R.alloc rfl (fun b hb => ?_) | refine R.box rfl rfl rfl (fun b hb => ?_) | refine R.build rfl rfl ?_ | ((first | refine S.lss rfl rfl ?_ ?_ | refine S.eqInt rfl rfl ?_ ?_) <;> intro hlt <;> try (exfalso; omega))) | (refine S.op0 rfl ?_; first | refine S.storeS rfl rfl rfl (by rfl) rfl (by first | decide | exact Nat.le_refl _ | exact Nat.le_of_ble_eq_true rfl) ?_ | refine S.store rfl rfl (by (repeat' (first | exact AHeap.set_same _ _ _ | refine AHeap.get_fresh ‹_› ?_)); first | done | fail) rfl rfl rfl (by rfl) rfl ?_) | refine S.seq ?_ | refine S.region ?_ | refine S.condT rfl ?_ | refine S.condF rfl ?_ | refine RRun.skip ?_ | refine RRun.block ?_ | refine RRun.inBlock ?_)
    apply S.ret rr35
    case hx => repeat (first | exact ResAt.nil | apply ResAt.tmp rfl | apply ResAt.cellA rfl (by (repeat' (first | exact AHeap.set_same _ _ _)); first | done | fail) (by rfl))
    exact ⟨_, h, .refl _, (by repeat (first | exact AHeap.le.refl _ | refine AHeap.le.set ?_ _ (by (repeat' (first | assumption | exact AHeap.z1 ‹_› | exact AHeap.z2 ‹_› | exact AHeap.z3 ‹_› | exact AHeap.z4 ‹_›)); first | done | fail))), rfl, rfl⟩
set_option maxHeartbeats 2000000 in
theorem eval_two (op : Int) (hop : parts op = 2) (hs : sums op = false) (t nm : List UInt8) (n vk vn : Int) (vs : List UInt8) (x y : Ex) (r : Row) (p q : Val × Int) (hp : p.1.ok) (hq : q.1.ok) (c35 : ∀ h, ACalls Try.prog 35 [.ag x.cells, rowA r] h (fun y h' => y = resA p ∧ h' = h)) (c35y : ∀ h, ACalls Try.prog 35 [.ag y.cells, rowA r] h (fun y h' => y = resA q ∧ h' = h)) (h : AHeap) :
    ACalls Try.prog 35 [.ag [i64 op, str t, str nm, i64 n, i64 vk, i64 vn, str vs, exprs [x, y]], rowA r] h (fun y h' => y = resA (if p.2 = 0 then (if q.2 = 0 then finishF op p.1 q.1 else (vz, q.2)) else (vz, p.2)) ∧ h' = h) := by
  have h1 : op ≠ 1 := fun e => by subst e; simp [parts] at hop
  have h2 : op ≠ 2 := fun e => by subst e; simp [parts] at hop
  have h3 : op ≠ 3 := fun e => by subst e; simp [parts] at hop
  have c44 := fun h => sums_spec op h
  rw [hs] at c44
  have c43 := fun h => parts_spec op h
  rw [hop] at c43
  have c46 := fun h => compares_spec op h
  have hlen : ([x, y].map Ex.cells).length = 2 := rfl
  have g0 : ([x, y].map Ex.cells)[(0 : Int).toNat]? = some x.cells := rfl
  have g1 : ([x, y].map Ex.cells)[((0 : Int) + 1).toNat]? = some y.cells := rfl
  obtain ⟨pv, pe⟩ := p
  obtain ⟨qv, qe⟩ := q
  simp only at hp hq ⊢
  have c47 := fun h => compare_spec op pv qv h
  have c49 := fun h => whole_spec pv h
  have c49z := fun h => whole_spec qv h
  have c48 := fun h => apply_spec op (whole pv) (whole qv) (whole_ok hp).2 (whole_ok hq).2 h
  obtain ⟨c', hc1, hc2⟩ := res35
  refine ACalls.weak (ACalls.enter Try.func35 hc1 Try.ntmps35 hc2 (Nat.le_of_ble_eq_true rfl) rfl ?_)
  by_cases hpe : pe = 0
  · subst hpe
    rw [if_pos rfl]
    obtain ⟨op', t', nm', n', ⟨vk', vn', vs'⟩, args'⟩ := x
    rw [cells_mk] at g0 c35
    obtain ⟨op2, t2, nm2, n2, ⟨vk2, vn2, vs2⟩, args2⟩ := y
    rw [cells_mk] at g1 c35y
    by_cases hqe : qe = 0
    · subst hqe
      rw [if_pos rfl]
      unfold finishF
      by_cases h19 : op = 19
      · rw [if_pos h19]
        subst h19
        have c45 := fun b h => truth_spec b h
        repeat' (first | ((show RRunG _ _ _ (.code (.loop _) :: _) _ _ _; refine RRun.loopIn ?_)) | ((show RRunG _ _ _ (.inLoop r35l0 :: _) _ _ _; refine RRun.inLoop ?_)) | refine S.nilK ?_ | (refine S.op rfl ?_; first | refine R.callQ (by decide) rfl (c43 _) ?_ | refine R.callQ (by decide) rfl (c44 _) ?_ | refine R.indexArr rfl rfl (by omega) (by omega) ?_ | refine R.indexAddr rfl rfl (by omega) g0 ?_ | refine R.indexAddr rfl rfl (by omega) g1 ?_ | refine callS rfl rfl (c35 _) ?_ | refine callS rfl rfl (c35y _) ?_ | refine callS rfl rfl (c45 _ _) ?_ | refine S.eqIntSame (a := 19) rfl rfl ?_ | refine R.mv rfl ?_ | refine R.fieldAddr rfl ?_ | refine R.loadR rfl rfl ?_ | refine R.load (by decide) rfl (by (repeat' (first | exact AHeap.set_same _ _ _ | refine AHeap.get_fresh ‹_› ?_ | refine AHeap.so ?_ ?_ | exact AHeap.n6 ‹_›)); first | done | fail) rfl ?_ | refine S.addI rfl rfl (by omega) ?_ | refine R.pickF rfl rfl ?_ | refine R.len rfl ?_ | refine R.extract rfl rfl ?_ | refine R.alloc rfl (fun b hb => ?_) | refine R.box rfl rfl rfl (fun b hb => ?_) | ((first | refine S.lss rfl rfl ?_ ?_ | refine S.eqInt rfl rfl ?_ ?_) <;> intro hlt <;> try (exfalso; omega))) | (refine S.op0 rfl ?_; first | refine S.storeS rfl rfl rfl (by rfl) rfl (by first | decide | exact Nat.le_refl _ | exact Nat.le_of_ble_eq_true rfl) ?_ | refine S.store rfl rfl (by (repeat' (first | exact AHeap.set_same _ _ _ | refine AHeap.get_fresh ‹_› ?_ | refine AHeap.so ?_ ?_ | exact AHeap.n2 ‹_›)); first | done | fail) rfl rfl rfl (by rfl) rfl ?_) | refine S.seq ?_ | refine S.region ?_ | refine S.condT rfl ?_ | refine S.condF rfl ?_ | refine RRun.skip ?_ | refine RRun.block ?_ | refine RRun.inBlock ?_ | refine RRun.exit rfl ?_)
        all_goals
          apply S.ret rr35
          case hx => repeat (first | exact ResAt.nil | apply ResAt.tmp rfl | apply ResAt.cellA rfl (by (repeat' (first | exact AHeap.set_same _ _ _)); first | done | fail) (by rfl))
          refine ⟨_, h, .refl _, (by repeat (first | exact AHeap.le.refl _ | refine AHeap.le.set ?_ _ (by (repeat' (first | assumption | exact AHeap.z1 ‹_› | exact AHeap.z2 ‹_› | exact AHeap.z3 ‹_› | exact AHeap.z4 ‹_› | exact AHeap.z6 ‹_› | exact AHeap.z7 ‹_›)); first | done | fail))), ?_, rfl⟩
          first | exact congrArg resA (a₁ := (truth true, (0 : Int))) (congrArg (fun b => (truth b, (0 : Int))) (decide_eq_true (by omega)).symm) | exact congrArg resA (a₁ := (truth false, (0 : Int))) (congrArg (fun b => (truth b, (0 : Int))) (decide_eq_false (by omega)).symm)
      · rw [if_neg h19]
        cases hcm : compares op with
        | true =>
          rw [hcm] at c46
          rw [if_pos rfl]
          repeat' (first | ((show RRunG _ _ _ (.code (.loop _) :: _) _ _ _; refine RRun.loopIn ?_)) | ((show RRunG _ _ _ (.inLoop r35l0 :: _) _ _ _; refine RRun.inLoop ?_)) | refine S.nilK ?_ | (refine S.op rfl ?_; first | refine R.callQ (by decide) rfl (c43 _) ?_ | refine R.callQ (by decide) rfl (c44 _) ?_ | refine R.indexArr rfl rfl (by omega) (by omega) ?_ | refine R.callQ (by decide) rfl (c46 _) ?_ | refine R.indexAddr rfl rfl (by omega) g0 ?_ | refine R.indexAddr rfl rfl (by omega) g1 ?_ | refine callS rfl rfl (c35 _) ?_ | refine callS rfl rfl (c35y _) ?_ | refine callS rfl rfl (c47 _) ?_ | refine R.mv rfl ?_ | refine R.fieldAddr rfl ?_ | refine R.loadR rfl rfl ?_ | refine R.load (by decide) rfl (by (repeat' (first | exact AHeap.set_same _ _ _ | refine AHeap.get_fresh ‹_› ?_ | refine AHeap.so ?_ ?_ | exact AHeap.n6 ‹_›)); first | done | fail) rfl ?_ | refine S.addI rfl rfl (by omega) ?_ | refine R.pickF rfl rfl ?_ | refine R.len rfl ?_ | refine R.extract rfl rfl ?_ | refine R.alloc rfl (fun b hb => ?_) | refine R.box rfl rfl rfl (fun b hb => ?_) | ((first | refine S.lss rfl rfl ?_ ?_ | refine S.eqInt rfl rfl ?_ ?_) <;> intro hlt <;> try (exfalso; omega))) | (refine S.op0 rfl ?_; first | refine S.storeS rfl rfl rfl (by rfl) rfl (by first | decide | exact Nat.le_refl _ | exact Nat.le_of_ble_eq_true rfl) ?_ | refine S.store rfl rfl (by (repeat' (first | exact AHeap.set_same _ _ _ | refine AHeap.get_fresh ‹_› ?_ | refine AHeap.so ?_ ?_ | exact AHeap.n2 ‹_›)); first | done | fail) rfl rfl rfl (by rfl) rfl ?_) | refine S.seq ?_ | refine S.region ?_ | refine S.condT rfl ?_ | refine S.condF rfl ?_ | refine RRun.skip ?_ | refine RRun.block ?_ | refine RRun.inBlock ?_ | refine RRun.exit rfl ?_)
          apply S.ret rr35
          case hx => repeat (first | exact ResAt.nil | apply ResAt.tmp rfl | apply ResAt.cellA rfl (by (repeat' (first | exact AHeap.set_same _ _ _)); first | done | fail) (by rfl))
          exact ⟨_, h, .refl _, (by repeat (first | exact AHeap.le.refl _ | refine AHeap.le.set ?_ _ (by (repeat' (first | assumption | exact AHeap.z1 ‹_› | exact AHeap.z2 ‹_› | exact AHeap.z3 ‹_› | exact AHeap.z4 ‹_› | exact AHeap.z6 ‹_› | exact AHeap.z7 ‹_›)); first | done | fail))), rfl, rfl⟩
        | false =>
          rw [hcm] at c46
          rw [if_neg (by simp)]
          generalize applyF op (whole pv) (whole qv) = ap at c48 ⊢
          generalize whole pv = wp at c48 c49 ⊢
          generalize whole qv = wz at c48 c49z ⊢
          repeat' (first | ((show RRunG _ _ _ (.code (.loop _) :: _) _ _ _; refine RRun.loopIn ?_)) | ((show RRunG _ _ _ (.inLoop r35l0 :: _) _ _ _; refine RRun.inLoop ?_)) | refine S.nilK ?_ | (refine S.op rfl ?_; first | refine R.callQ (by decide) rfl (c43 _) ?_ | refine R.callQ (by decide) rfl (c44 _) ?_ | refine R.indexArr rfl rfl (by omega) (by omega) ?_ | refine R.callQ (by decide) rfl (c46 _) ?_ | refine R.indexAddr rfl rfl (by omega) g0 ?_ | refine R.indexAddr rfl rfl (by omega) g1 ?_ | refine callS rfl rfl (c35 _) ?_ | refine callS rfl rfl (c35y _) ?_ | refine R.callQ (by decide) rfl (c49 _) ?_ | refine R.callQ (by decide) rfl (c49z _) ?_ | refine callS rfl rfl (c48 _) ?_ | refine R.mv rfl ?_ | refine R.fieldAddr rfl ?_ | refine R.loadR rfl rfl ?_ | refine R.load (by decide) rfl (by (repeat' (first | exact AHeap.set_same _ _ _ | refine AHeap.get_fresh ‹_› ?_ | refine AHeap.so ?_ ?_ | exact AHeap.n6 ‹_›)); first | done | fail) rfl ?_ | refine S.addI rfl rfl (by omega) ?_ | refine R.pickF rfl rfl ?_ | refine R.len rfl ?_ | refine R.extract rfl rfl ?_ | refine R.alloc rfl (fun b hb => ?_) | refine R.box rfl rfl rfl (fun b hb => ?_) | ((first | refine S.lss rfl rfl ?_ ?_ | refine S.eqInt rfl rfl ?_ ?_) <;> intro hlt <;> try (exfalso; omega))) | (refine S.op0 rfl ?_; first | refine S.storeS rfl rfl rfl (by rfl) rfl (by first | decide | exact Nat.le_refl _ | exact Nat.le_of_ble_eq_true rfl) ?_ | refine S.store rfl rfl (by (repeat' (first | exact AHeap.set_same _ _ _ | refine AHeap.get_fresh ‹_› ?_ | refine AHeap.so ?_ ?_ | exact AHeap.n2 ‹_›)); first | done | fail) rfl rfl rfl (by rfl) rfl ?_) | refine S.seq ?_ | refine S.region ?_ | refine S.condT rfl ?_ | refine S.condF rfl ?_ | refine RRun.skip ?_ | refine RRun.block ?_ | refine RRun.inBlock ?_ | refine RRun.exit rfl ?_)
          apply S.ret rr35
          case hx => repeat (first | exact ResAt.nil | apply ResAt.tmp rfl | apply ResAt.cellA rfl (by (repeat' (first | exact AHeap.set_same _ _ _)); first | done | fail) (by rfl))
          exact ⟨_, h, .refl _, (by repeat (first | exact AHeap.le.refl _ | refine AHeap.le.set ?_ _ (by (repeat' (first | assumption | exact AHeap.z1 ‹_› | exact AHeap.z2 ‹_› | exact AHeap.z3 ‹_› | exact AHeap.z4 ‹_› | exact AHeap.z6 ‹_› | exact AHeap.z7 ‹_›)); first | done | fail))), rfl, rfl⟩
    · rw [if_neg hqe]
      repeat' (first | ((show RRunG _ _ _ (.code (.loop _) :: _) _ _ _; refine RRun.loopIn ?_)) | ((show RRunG _ _ _ (.inLoop r35l0 :: _) _ _ _; refine RRun.inLoop ?_)) | refine S.nilK ?_ | (refine S.op rfl ?_; first | refine R.callQ (by decide) rfl (c43 _) ?_ | refine R.callQ (by decide) rfl (c44 _) ?_ | refine R.indexArr rfl rfl (by omega) (by omega) ?_ | refine R.indexAddr rfl rfl (by omega) g0 ?_ | refine R.indexAddr rfl rfl (by omega) g1 ?_ | refine callS rfl rfl (c35 _) ?_ | refine callS rfl rfl (c35y _) ?_ | refine R.mv rfl ?_ | refine R.fieldAddr rfl ?_ | refine R.loadR rfl rfl ?_ | refine R.load (by decide) rfl (by (repeat' (first | exact AHeap.set_same _ _ _ | refine AHeap.get_fresh ‹_› ?_)); first | done | fail) rfl ?_ | refine S.addI rfl rfl (by omega) ?_ | refine R.pickF rfl rfl ?_ | refine R.len rfl ?_ | refine R.extract rfl rfl ?_ | refine R.alloc rfl (fun b hb => ?_) | refine R.box rfl rfl rfl (fun b hb => ?_) | refine R.build rfl rfl ?_ | ((first | refine S.lss rfl rfl ?_ ?_ | refine S.eqInt rfl rfl ?_ ?_) <;> intro hlt <;> try (exfalso; omega))) | (refine S.op0 rfl ?_; first | refine S.storeS rfl rfl rfl (by rfl) rfl (by first | decide | exact Nat.le_refl _ | exact Nat.le_of_ble_eq_true rfl) ?_ | refine S.store rfl rfl (by (repeat' (first | exact AHeap.set_same _ _ _ | refine AHeap.get_fresh ‹_› ?_ | refine AHeap.so ?_ ?_ | exact AHeap.n2 ‹_›)); first | done | fail) rfl rfl rfl (by rfl) rfl ?_) | refine S.seq ?_ | refine S.region ?_ | refine S.condT rfl ?_ | refine S.condF rfl ?_ | refine RRun.skip ?_ | refine RRun.block ?_ | refine RRun.inBlock ?_)
      apply S.ret rr35
      case hx => repeat (first | exact ResAt.nil | apply ResAt.tmp rfl | apply ResAt.cellA rfl (by (repeat' (first | exact AHeap.set_same _ _ _)); first | done | fail) (by rfl))
      exact ⟨_, h, .refl _, (by repeat (first | exact AHeap.le.refl _ | refine AHeap.le.set ?_ _ (by (repeat' (first | assumption | exact AHeap.z1 ‹_› | exact AHeap.z2 ‹_› | exact AHeap.z3 ‹_› | exact AHeap.z4 ‹_› | exact AHeap.z6 ‹_› | exact AHeap.z7 ‹_›)); first | done | fail))), rfl, rfl⟩
  · rw [if_neg hpe]
    obtain ⟨op', t', nm', n', ⟨vk', vn', vs'⟩, args'⟩ := x
    rw [cells_mk] at g0 c35
    repeat' (first | ((show RRunG _ _ _ (.code (.loop _) :: _) _ _ _; refine RRun.loopIn ?_)) | ((show RRunG _ _ _ (.inLoop r35l0 :: _) _ _ _; refine RRun.inLoop ?_)) | refine S.nilK ?_ | (refine S.op rfl ?_; first | refine R.callQ (by decide) rfl (c43 _) ?_ | refine R.callQ (by decide) rfl (c44 _) ?_ | refine R.indexAddr rfl rfl (by omega) g0 ?_ | refine callS rfl rfl (c35 _) ?_ | refine R.mv rfl ?_ | refine R.fieldAddr rfl ?_ | refine R.loadR rfl rfl ?_ | refine R.load (by decide) rfl (by (repeat' (first | exact AHeap.set_same _ _ _ | refine AHeap.get_fresh ‹_› ?_)); first | done | fail) rfl ?_ | refine R.pickF rfl rfl ?_ | refine R.len rfl ?_ | refine R.extract rfl rfl ?_ | refine R.alloc rfl (fun b hb => ?_) | refine R.box rfl rfl rfl (fun b hb => ?_) | refine R.build rfl rfl ?_ | ((first | refine S.lss rfl rfl ?_ ?_ | refine S.eqInt rfl rfl ?_ ?_) <;> intro hlt <;> try (exfalso; omega))) | (refine S.op0 rfl ?_; first | refine S.storeS rfl rfl rfl (by rfl) rfl (by first | decide | exact Nat.le_refl _ | exact Nat.le_of_ble_eq_true rfl) ?_ | refine S.store rfl rfl (by (repeat' (first | exact AHeap.set_same _ _ _ | refine AHeap.get_fresh ‹_› ?_)); first | done | fail) rfl rfl rfl (by rfl) rfl ?_) | refine S.seq ?_ | refine S.region ?_ | refine S.condT rfl ?_ | refine S.condF rfl ?_ | refine RRun.skip ?_ | refine RRun.block ?_ | refine RRun.inBlock ?_)
    apply S.ret rr35
    case hx => repeat (first | exact ResAt.nil | apply ResAt.tmp rfl | apply ResAt.cellA rfl (by (repeat' (first | exact AHeap.set_same _ _ _)); first | done | fail) (by rfl))
    exact ⟨_, h, .refl _, (by repeat (first | exact AHeap.le.refl _ | refine AHeap.le.set ?_ _ (by (repeat' (first | assumption | exact AHeap.z1 ‹_› | exact AHeap.z2 ‹_› | exact AHeap.z3 ‹_› | exact AHeap.z4 ‹_›)); first | done | fail))), rfl, rfl⟩
theorem parts_two {op : Int} : parts op = 0 ∨ parts op = 1 ∨ parts op = 2 ∨ parts op = -1 := by
  unfold parts
  repeat' split
  all_goals simp
theorem parts_zero {op : Int} (h : parts op = 0) : op = 1 ∨ op = 2 ∨ op = 3 ∨ op = 20 := by
  unfold parts at h
  split at h
  · assumption
  · split at h
    · cases h
    · split at h <;> cases h
theorem eval_spec : ∀ (d : Nat) (e : Ex), e.ok → lightN d e = true → ∀ (r : Row), r.length ≤ 9223372036854775807 → (∀ v ∈ r, v.ok) → ∀ h, ACalls Try.prog 35 [.ag e.cells, rowA r] h (fun x h' => x = resA (evalN d e r) ∧ h' = h) := by
  intro d
  induction d with
  | zero => intro e _ hl; simp [lightN] at hl
  | succ d ih =>
    intro e he hl r hr hrv h
    obtain ⟨op, t, nm, n, ⟨vk, vn, vs⟩, args⟩ := e
    rw [Ex.ok] at he
    obtain ⟨-, -, -, -, hol⟩ := he
    simp only [lightN, Bool.and_eq_true, decide_eq_true_eq] at hl
    obtain ⟨⟨hl3, -⟩, hla⟩ := hl
    have hm := okL_mem hol
    have hla' := List.all_eq_true.1 hla
    have ih' : ∀ x ∈ args, ∀ h, ACalls Try.prog 35 [.ag x.cells, rowA r] h (fun y h' => y = resA (evalN d x r) ∧ h' = h) := fun x hx h => ih x (hm x hx) (hla' x hx) r hr hrv h
    have hok : ∀ x ∈ args, (evalN d x r).1.ok := fun x hx => evalN_ok d x r (hm x hx) hrv
    rw [cells_mk, evalN]
    by_cases hb : ¬ (parts op = args.length) ∨ op = 2 ∨ sums op = true
    · rw [if_pos hb]
      exact eval_bad op t nm n vk vn vs args (by omega) r hb h
    · rw [if_neg hb]
      have b1 : parts op = args.length := Decidable.not_not.1 fun e => hb (.inl e)
      have b2 : op ≠ 2 := fun e => hb (.inr (.inl e))
      have b3 : sums op = false := by
        cases hs : sums op with
        | false => rfl
        | true => exact absurd (.inr (.inr hs)) hb
      have b20 : op ≠ 20 := fun e => by subst e; simp [sums] at b3
      match args, hl3, b1, ih', hok with
      | [], _, b1, _, _ =>
        rcases parts_zero b1 with h | h | h | h
        · subst h; rw [if_pos rfl]; exact eval_lit t nm n vk vn vs r _
        · exact absurd h b2
        · subst h; rw [if_neg (by decide), if_pos rfl]; exact eval_pos t nm n vk vn vs r hr _
        · exact absurd h b20
      | [x], _, b1, ih', hok =>
        have hp : parts op = 1 := by simpa using b1
        have h1 : op ≠ 1 := fun e => by subst e; simp [parts] at hp
        have h3 : op ≠ 3 := fun e => by subst e; simp [parts] at hp
        rw [if_neg h1, if_neg h3]
        exact eval_one op hp b3 t nm n vk vn vs x r (evalN d x r) (hok x (by simp)) (ih' x (by simp)) h
      | [x, y], _, b1, ih', hok =>
        have hp : parts op = 2 := by simpa using b1
        have h1 : op ≠ 1 := fun e => by subst e; simp [parts] at hp
        have h3 : op ≠ 3 := fun e => by subst e; simp [parts] at hp
        rw [if_neg h1, if_neg h3]
        exact eval_two op hp b3 t nm n vk vn vs x y r (evalN d x r) (evalN d y r) (hok x (by simp)) (hok y (by simp)) (ih' x (by simp)) (ih' y (by simp)) h
      | x :: y :: z :: l, hl3, b1, _, _ =>
        have := @parts_two op
        simp only [List.length_cons] at b1
        omega
end Go.Proofs.Ythadifboeggnpaa

namespace Go.Proofs.Ythadifboeggnpaa
open Go.Av
theorem vals_one (r : Row) : ∀ z ∈ r.map Val.cells, ∀ a ∈ z, a.one = true := by
  intro z hz a ha
  obtain ⟨v, _, rfl⟩ := List.mem_map.1 hz
  simp [Val.cells] at ha
  rcases ha with rfl | rfl | rfl <;> rfl
theorem same_agg (v : Val) : aggEq [(0, .int), (1, .int), (2, .str)] [.int .i64 v.kind, .int .i64 v.n, .string ⟨v.s.toArray⟩] [.int .i64 v.kind, .int .i64 v.n, .string ⟨v.s.toArray⟩] = some true := by
  simp [aggEq, atomEq]
end Go.Proofs.Ythadifboeggnpaa

namespace Go.Proofs.Ythadifboeggnpaa
open Go.Av
abbrev rowsC (l : List Row) (c : Cap) : AV := .sl 1 (l.map fun r => [rowA r]) c
abbrev ansA (p : List Row × Int) : AV := .tu [rowsA p.1, i64 p.2]
theorem row_one (r : Row) : ∀ e ∈ [[rowA r]], ∀ a ∈ e, a.one = true := by
  intro e he a ha
  simp at he; subst he; simp at ha; subst ha; rfl
theorem rows_snoc (l : List Row) (r : Row) : (l.map fun r => [rowA r]) ++ [[rowA r]] = (l ++ [r]).map fun r => [rowA r] := by simp
structure Stop (p : Prop) : Prop where
  h : p
end Go.Proofs.Ythadifboeggnpaa

namespace Go.Proofs.Ythadifboeggnpaa
open Go.Av
abbrev countA : AV := .ag [i64 20, str [], str [], i64 0, i64 0, i64 0, str [], exprs []]
def nV (n : Nat) : Val := ⟨1, n, []⟩
def r42l0 : RCode :=
  (.seq (.region [
    ⟨(some 25), none, .act, .bin .lss (.tmp 24) (.tmp 23)⟩])
  (.seq (.cond (.tmp 25)
   .skip
   (.exit 0))
  (.seq (.block 1
   (.seq (.region [
     ⟨(some 26), none, .act, .indexAddr 1 (.tmp 22) (.tmp 24)⟩,
     ⟨(some 27), none, .act, .load false 1 (.tmp 26)⟩,
     ⟨(some 8), none, .act, .mv (.tmp 27)⟩])
   (.seq (.region [
     ⟨(some 29), none, .act, .fieldAddr 7 (.tmp 2)⟩,
     ⟨(some 30), none, .act, .load false 1 (.tmp 29)⟩,
     ⟨(some 31), none, .act, .indexAddr 8 (.tmp 30) (.const (.int .i64 0))⟩,
     ⟨(some 32), none, .act, .load true 8 (.tmp 31)⟩,
     ⟨(some 33), none, .act, .mv (.tmp 8)⟩,
     ⟨(some 34), none, .act, .call 35 [(.tmp 32), (.tmp 33)]⟩,
     ⟨(some 28), none, .act, .mv (.tmp 34)⟩,
     ⟨(some 35), none, .act, .extract (.tmp 28) 0⟩,
     ⟨(some 36), none, .act, .extract (.tmp 28) 1⟩,
     ⟨(some 9), none, .act, .alloc [(.int .i64 0), (.int .i64 0), (.string ⟨#[]⟩)]⟩,
     ⟨none, none, .act, .store 3 (.tmp 9) (.tmp 35)⟩,
     ⟨(some 10), none, .act, .mv (.tmp 36)⟩])
   (.seq (.seq (.region [
     ⟨(some 37), none, .act, .mv (.tmp 10)⟩,
     ⟨(some 38), none, .act, .eq true .int (.tmp 37) (.const (.int .i64 0))⟩])
   (.cond (.tmp 38)
    (.seq (.region [
      ⟨(some 39), none, .act, .build [(.int .i64 0), (.int .i64 0), (.string ⟨#[]⟩)] []⟩,
      ⟨(some 40), none, .act, .mv (.tmp 10)⟩,
      ⟨none, none, .act, .store 3 (.tmp 4) (.tmp 39)⟩,
      ⟨(some 5), none, .act, .mv (.tmp 40)⟩])
    .ret)
    .skip))
   (.seq (.seq (.region [
     ⟨(some 41), none, .act, .fieldAddr 0 (.tmp 9)⟩,
     ⟨(some 42), none, .act, .load false 1 (.tmp 41)⟩,
     ⟨(some 43), none, .act, .eq false .int (.tmp 42) (.const (.int .i64 0))⟩,
     ⟨(some 44), none, .act, .mv (.tmp 43)⟩,
     ⟨(some 45), (some (44, false)), .act, .fieldAddr 0 (.tmp 2)⟩,
     ⟨(some 46), (some (44, false)), .act, .load false 1 (.tmp 45)⟩,
     ⟨(some 47), (some (44, false)), .act, .eq false .int (.tmp 46) (.const (.int .i64 21))⟩,
     ⟨(some 48), (some (44, false)), .act, .mv (.tmp 47)⟩,
     ⟨(some 49), (some (48, true)), .act, .fieldAddr 0 (.tmp 9)⟩,
     ⟨(some 50), (some (48, true)), .act, .load false 1 (.tmp 49)⟩,
     ⟨(some 51), (some (48, true)), .act, .eq true .int (.tmp 50) (.const (.int .i64 1))⟩,
     ⟨(some 52), (some (44, false)), .act, .pick (.tmp 48) (.tmp 51) (.const (.bool false))⟩,
     ⟨(some 53), none, .act, .pick (.tmp 44) (.const (.bool true)) (.tmp 52)⟩])
   (.cond (.tmp 53)
    (.exit 1)
    .skip))
   (.seq (.region [
     ⟨(some 55), none, .act, .fieldAddr 0 (.tmp 2)⟩,
     ⟨(some 56), none, .act, .load false 1 (.tmp 55)⟩,
     ⟨(some 57), none, .act, .load true 3 (.tmp 6)⟩,
     ⟨(some 58), none, .act, .load true 3 (.tmp 9)⟩,
     ⟨(some 59), none, .act, .call 57 [(.tmp 56), (.tmp 57), (.tmp 58)]⟩,
     ⟨(some 54), none, .act, .mv (.tmp 59)⟩,
     ⟨(some 60), none, .act, .extract (.tmp 54) 0⟩,
     ⟨(some 61), none, .act, .extract (.tmp 54) 1⟩,
     ⟨none, none, .act, .store 3 (.tmp 6) (.tmp 60)⟩,
     ⟨(some 10), none, .act, .mv (.tmp 61)⟩])
   (.seq (.region [
     ⟨(some 62), none, .act, .mv (.tmp 10)⟩,
     ⟨(some 63), none, .act, .eq true .int (.tmp 62) (.const (.int .i64 0))⟩])
   (.cond (.tmp 63)
    (.seq (.region [
      ⟨(some 64), none, .act, .build [(.int .i64 0), (.int .i64 0), (.string ⟨#[]⟩)] []⟩,
      ⟨(some 65), none, .act, .mv (.tmp 10)⟩,
      ⟨none, none, .act, .store 3 (.tmp 4) (.tmp 64)⟩,
      ⟨(some 5), none, .act, .mv (.tmp 65)⟩])
    .ret)
    .skip))))))))
  (.region [
    ⟨(some 66), none, .act, .bin .add (.tmp 24) (.const (.int .i64 1))⟩,
    ⟨(some 24), none, .act, .mv (.tmp 66)⟩]))))
def r42 : RCode :=
  (.seq (.region [
    ⟨(some 2), none, .act, .box (.tmp 0)⟩,
    ⟨(some 4), none, .act, .alloc [(.int .i64 0), (.int .i64 0), (.string ⟨#[]⟩)]⟩,
    ⟨(some 5), none, .act, .mv (.const (.int .i64 0))⟩])
  (.seq (.seq (.region [
    ⟨(some 11), none, .act, .fieldAddr 0 (.tmp 2)⟩,
    ⟨(some 12), none, .act, .load false 1 (.tmp 11)⟩,
    ⟨(some 13), none, .act, .eq false .int (.tmp 12) (.const (.int .i64 20))⟩])
  (.cond (.tmp 13)
   (.seq (.region [
     ⟨(some 14), none, .act, .mv (.tmp 1)⟩,
     ⟨(some 15), none, .act, .len (.tmp 14)⟩,
     ⟨(some 16), none, .act, .build [(.int .i64 0), (.int .i64 0), (.string ⟨#[]⟩)] [(0, 1, (.const (.int .i64 1))), (1, 1, (.tmp 15))]⟩,
     ⟨none, none, .act, .store 3 (.tmp 4) (.tmp 16)⟩,
     ⟨(some 5), none, .act, .mv (.const (.int .i64 0))⟩])
   .ret)
   .skip))
  (.seq (.seq (.region [
    ⟨(some 17), none, .act, .fieldAddr 7 (.tmp 2)⟩,
    ⟨(some 18), none, .act, .load false 1 (.tmp 17)⟩,
    ⟨(some 19), none, .act, .len (.tmp 18)⟩,
    ⟨(some 20), none, .act, .eq true .int (.tmp 19) (.const (.int .i64 1))⟩])
  (.cond (.tmp 20)
   (.seq (.region [
     ⟨(some 21), none, .act, .build [(.int .i64 0), (.int .i64 0), (.string ⟨#[]⟩)] []⟩,
     ⟨none, none, .act, .store 3 (.tmp 4) (.tmp 21)⟩,
     ⟨(some 5), none, .act, .mv (.const (.int .i64 220))⟩])
   .ret)
   .skip))
  (.seq (.region [
    ⟨(some 6), none, .act, .alloc [(.int .i64 0), (.int .i64 0), (.string ⟨#[]⟩)]⟩])
  (.seq (.seq (.region [
    ⟨(some 22), none, .act, .mv (.tmp 1)⟩,
    ⟨(some 23), none, .act, .len (.tmp 22)⟩,
    ⟨(some 24), none, .act, .mv (.const (.int .i64 0))⟩])
  (.block 0
   (.loop r42l0)))
  (.seq (.region [
    ⟨(some 67), none, .act, .load true 3 (.tmp 6)⟩,
    ⟨none, none, .act, .store 3 (.tmp 4) (.tmp 67)⟩,
    ⟨(some 5), none, .act, .mv (.const (.int .i64 0))⟩])
  .ret))))))
theorem res42 : ∃ c, Try.f42.body = some c ∧ resCode Try.prog 68 c = some r42 := ⟨_, rfl, by kernel_rfl⟩
theorem rr42 : resRes Try.prog Try.f42.results.toList = some [.cell 4 true 3, .tmp 5] := by kernel_rfl
theorem total_count (g : List Row) (h : AHeap) : ACalls Try.prog 42 [countA, rowsA g] h (fun x h' => x = .tu [.ag [i64 1, i64 g.length, str []], i64 0] ∧ h' = h) := by
  obtain ⟨c', hc1, hc2⟩ := res42
  refine ACalls.weak (ACalls.enter Try.func42 hc1 Try.ntmps42 hc2 (Nat.le_of_ble_eq_true rfl) rfl ?_)
  have hlen : (g.map fun r => [rowA r]).length = g.length := by simp
  repeat' (first | refine S.nilK ?_ | (refine S.op rfl ?_; first | refine S.eqIntSame (a := 20) rfl rfl ?_ | refine R.mv rfl ?_ | refine R.fieldAddr rfl ?_ | refine R.load (by decide) rfl (by (repeat' (first | exact AHeap.set_same _ _ _ | refine AHeap.get_fresh ‹_› ?_)); first | done | fail) rfl ?_ | refine R.len rfl ?_ | refine R.alloc rfl (fun b hb => ?_) | refine R.box rfl rfl rfl (fun b hb => ?_) | refine R.build rfl rfl ?_) | (refine S.op0 rfl ?_; first | refine S.storeS rfl rfl rfl (by rfl) rfl (by first | decide | exact Nat.le_refl _ | exact Nat.le_of_ble_eq_true rfl) ?_) | refine S.seq ?_ | refine S.region ?_ | refine S.condT rfl ?_)
  apply S.ret rr42
  case hx => repeat (first | exact ResAt.nil | apply ResAt.tmp rfl | apply ResAt.cellA rfl (by (repeat' (first | exact AHeap.set_same _ _ _)); first | done | fail) (by rfl))
  exact ⟨_, h, .refl _, (by repeat (first | exact AHeap.le.refl _ | refine AHeap.le.set ?_ _ (by (repeat' (first | assumption | exact AHeap.z1 ‹_›)); first | done | fail))), by rw [← hlen]; rfl, rfl⟩
def r34l0 : RCode :=
  (.seq (.region [
    ⟨(some 36), none, .act, .bin .lss (.tmp 35) (.tmp 34)⟩])
  (.seq (.cond (.tmp 36)
   .skip
   (.exit 0))
  (.seq (.block 1
   (.seq (.region [
     ⟨(some 37), none, .act, .indexAddr 8 (.tmp 33) (.tmp 35)⟩,
     ⟨(some 38), none, .act, .load true 8 (.tmp 37)⟩,
     ⟨(some 10), none, .act, .alloc [(.int .i64 0), (.string ⟨#[]⟩), (.string ⟨#[]⟩), (.int .i64 0), (.int .i64 0), (.int .i64 0), (.string ⟨#[]⟩), (.slice none 0 0)]⟩,
     ⟨none, none, .act, .store 8 (.tmp 10) (.tmp 38)⟩])
   (.seq (.region [
     ⟨(some 40), none, .act, .load true 8 (.tmp 10)⟩,
     ⟨(some 41), none, .act, .mv (.tmp 1)⟩,
     ⟨(some 42), none, .act, .call 34 [(.tmp 40), (.tmp 41)]⟩,
     ⟨(some 39), none, .act, .mv (.tmp 42)⟩,
     ⟨(some 43), none, .act, .extract (.tmp 39) 0⟩,
     ⟨(some 44), none, .act, .extract (.tmp 39) 1⟩,
     ⟨(some 11), none, .act, .alloc [(.int .i64 0), (.string ⟨#[]⟩), (.string ⟨#[]⟩), (.int .i64 0), (.int .i64 0), (.int .i64 0), (.string ⟨#[]⟩), (.slice none 0 0)]⟩,
     ⟨none, none, .act, .store 8 (.tmp 11) (.tmp 43)⟩,
     ⟨(some 12), none, .act, .mv (.tmp 44)⟩])
   (.seq (.seq (.region [
     ⟨(some 45), none, .act, .mv (.tmp 12)⟩,
     ⟨(some 46), none, .act, .eq true .int (.tmp 45) (.const (.int .i64 0))⟩])
   (.cond (.tmp 46)
    (.seq (.region [
      ⟨(some 47), none, .act, .build [(.int .i64 0), (.string ⟨#[]⟩), (.string ⟨#[]⟩), (.int .i64 0), (.int .i64 0), (.int .i64 0), (.string ⟨#[]⟩), (.slice none 0 0)] []⟩,
      ⟨(some 48), none, .act, .mv (.tmp 12)⟩,
      ⟨none, none, .act, .store 8 (.tmp 4) (.tmp 47)⟩,
      ⟨(some 5), none, .act, .mv (.tmp 48)⟩])
    .ret)
    .skip))
   (.region [
     ⟨(some 49), none, .act, .fieldAddr 7 (.tmp 8)⟩,
     ⟨(some 50), none, .act, .load false 1 (.tmp 49)⟩,
     ⟨(some 51), none, .act, .load true 8 (.tmp 11)⟩,
     ⟨(some 52), none, .act, .buildSl 8 [(.int .i64 0), (.string ⟨#[]⟩), (.string ⟨#[]⟩), (.int .i64 0), (.int .i64 0), (.int .i64 0), (.string ⟨#[]⟩), (.slice none 0 0)] 1 [(0, (.tmp 51))]⟩,
     ⟨(some 53), none, .act, .append 8 104 [(.int .i64 0), (.string ⟨#[]⟩), (.string ⟨#[]⟩), (.int .i64 0), (.int .i64 0), (.int .i64 0), (.string ⟨#[]⟩), (.slice none 0 0)] (.tmp 50) (.tmp 52)⟩,
     ⟨(some 54), none, .act, .fieldAddr 7 (.tmp 8)⟩,
     ⟨none, none, .act, .store 1 (.tmp 54) (.tmp 53)⟩])))))
  (.region [
    ⟨(some 55), none, .act, .bin .add (.tmp 35) (.const (.int .i64 1))⟩,
    ⟨(some 35), none, .act, .mv (.tmp 55)⟩]))))
def r34 : RCode :=
  (.seq (.region [
    ⟨(some 2), none, .act, .box (.tmp 0)⟩,
    ⟨(some 4), none, .act, .alloc [(.int .i64 0), (.string ⟨#[]⟩), (.string ⟨#[]⟩), (.int .i64 0), (.int .i64 0), (.int .i64 0), (.string ⟨#[]⟩), (.slice none 0 0)]⟩,
    ⟨(some 5), none, .act, .mv (.const (.int .i64 0))⟩])
  (.seq (.seq (.region [
    ⟨(some 13), none, .act, .fieldAddr 0 (.tmp 2)⟩,
    ⟨(some 14), none, .act, .load false 1 (.tmp 13)⟩,
    ⟨(some 15), none, .act, .bin .geq (.tmp 14) (.const (.int .i64 20))⟩,
    ⟨(some 16), none, .act, .mv (.tmp 15)⟩,
    ⟨(some 17), (some (16, true)), .act, .fieldAddr 0 (.tmp 2)⟩,
    ⟨(some 18), (some (16, true)), .act, .load false 1 (.tmp 17)⟩,
    ⟨(some 19), (some (16, true)), .act, .bin .leq (.tmp 18) (.const (.int .i64 23))⟩,
    ⟨(some 20), none, .act, .pick (.tmp 16) (.tmp 19) (.const (.bool false))⟩])
  (.cond (.tmp 20)
   (.seq (.region [
     ⟨(some 22), none, .act, .load true 8 (.tmp 2)⟩,
     ⟨(some 23), none, .act, .mv (.tmp 1)⟩,
     ⟨(some 24), none, .act, .call 42 [(.tmp 22), (.tmp 23)]⟩,
     ⟨(some 21), none, .act, .mv (.tmp 24)⟩,
     ⟨(some 25), none, .act, .extract (.tmp 21) 0⟩,
     ⟨(some 26), none, .act, .extract (.tmp 21) 1⟩,
     ⟨(some 6), none, .act, .alloc [(.int .i64 0), (.int .i64 0), (.string ⟨#[]⟩)]⟩,
     ⟨none, none, .act, .store 3 (.tmp 6) (.tmp 25)⟩,
     ⟨(some 7), none, .act, .mv (.tmp 26)⟩])
   (.seq (.region [
     ⟨(some 27), none, .act, .load true 3 (.tmp 6)⟩,
     ⟨(some 28), none, .act, .build [(.int .i64 0), (.string ⟨#[]⟩), (.string ⟨#[]⟩), (.int .i64 0), (.int .i64 0), (.int .i64 0), (.string ⟨#[]⟩), (.slice none 0 0)] [(0, 1, (.const (.int .i64 1))), (4, 3, (.tmp 27))]⟩,
     ⟨(some 29), none, .act, .mv (.tmp 7)⟩,
     ⟨none, none, .act, .store 8 (.tmp 4) (.tmp 28)⟩,
     ⟨(some 5), none, .act, .mv (.tmp 29)⟩])
   .ret))
   .skip))
  (.seq (.region [
    ⟨(some 30), none, .act, .load true 8 (.tmp 2)⟩,
    ⟨(some 8), none, .act, .alloc [(.int .i64 0), (.string ⟨#[]⟩), (.string ⟨#[]⟩), (.int .i64 0), (.int .i64 0), (.int .i64 0), (.string ⟨#[]⟩), (.slice none 0 0)]⟩,
    ⟨none, none, .act, .store 8 (.tmp 8) (.tmp 30)⟩])
  (.seq (.region [
    ⟨(some 31), none, .act, .fieldAddr 7 (.tmp 8)⟩,
    ⟨none, none, .act, .store 1 (.tmp 31) (.const (.slice none 0 0))⟩])
  (.seq (.seq (.region [
    ⟨(some 32), none, .act, .fieldAddr 7 (.tmp 2)⟩,
    ⟨(some 33), none, .act, .load false 1 (.tmp 32)⟩,
    ⟨(some 34), none, .act, .len (.tmp 33)⟩,
    ⟨(some 35), none, .act, .mv (.const (.int .i64 0))⟩])
  (.block 0
   (.loop r34l0)))
  (.seq (.region [
    ⟨(some 56), none, .act, .load true 8 (.tmp 8)⟩,
    ⟨none, none, .act, .store 8 (.tmp 4) (.tmp 56)⟩,
    ⟨(some 5), none, .act, .mv (.const (.int .i64 0))⟩])
  .ret))))))
theorem res34 : ∃ c, Try.f34.body = some c ∧ resCode Try.prog 57 c = some r34 := ⟨_, rfl, by kernel_rfl⟩
theorem rr34 : resRes Try.prog Try.f34.results.toList = some [.cell 4 true 8, .tmp 5] := by kernel_rfl
theorem reduced_count (g : List Row) (h : AHeap) : ACalls Try.prog 34 [countA, rowsA g] h (fun x h' => x = .tu [.ag [i64 1, str [], str [], i64 0, i64 1, i64 g.length, str [], exprs []], i64 0] ∧ h' = h) := by
  have c42 := fun h => total_count g h
  obtain ⟨c', hc1, hc2⟩ := res34
  refine ACalls.weak (ACalls.enter Try.func34 hc1 Try.ntmps34 hc2 (Nat.le_of_ble_eq_true rfl) rfl ?_)
  repeat' (first | refine S.nilK ?_ | (refine S.op rfl ?_; first | refine callS rfl rfl (c42 _) ?_ | refine R.mv rfl ?_ | refine R.fieldAddr rfl ?_ | refine R.load (by decide) rfl (by (repeat' (first | exact AHeap.set_same _ _ _ | refine AHeap.get_fresh ‹_› ?_)); first | done | fail) rfl ?_ | refine R.pickT rfl rfl ?_ | refine R.extract rfl rfl ?_ | refine R.alloc rfl (fun b hb => ?_) | refine R.box rfl rfl rfl (fun b hb => ?_) | refine R.build rfl rfl ?_ | ((first | refine S.leq rfl rfl ?_ ?_ | refine S.geq rfl rfl ?_ ?_) <;> intro hlt <;> try (exfalso; omega))) | (refine S.op0 rfl ?_; first | refine S.storeS rfl rfl rfl (by rfl) rfl (by first | decide | exact Nat.le_refl _ | exact Nat.le_of_ble_eq_true rfl) ?_ | refine S.store rfl rfl (by (repeat' (first | exact AHeap.set_same _ _ _ | refine AHeap.get_fresh ‹_› ?_)); first | done | fail) rfl rfl rfl (by rfl) rfl ?_) | refine S.seq ?_ | refine S.region ?_ | refine S.condT rfl ?_)
  apply S.ret rr34
  case hx => repeat (first | exact ResAt.nil | apply ResAt.tmp rfl | apply ResAt.cellA rfl (by (repeat' (first | exact AHeap.set_same _ _ _)); first | done | fail) (by rfl))
  exact ⟨_, h, .tu (.cons (.ag (.cons (.refl _) (.cons (.refl _) (.cons (.refl _) (.cons (.refl _) (.cons (.refl _) (.cons (.refl _) (.cons (.refl _) (.cons (.nilSl 8 (c := .ro) trivial) .nil))))))))) (.cons (.refl _) .nil)), (by repeat (first | exact AHeap.le.refl _ | refine AHeap.le.set ?_ _ (by (repeat' (first | assumption | exact AHeap.z1 ‹_› | exact AHeap.z2 ‹_›)); first | done | fail))), rfl, rfl⟩
def r24 : RCode :=
  (.seq (.region [
    ⟨(some 2), none, .act, .box (.tmp 0)⟩,
    ⟨(some 4), none, .act, .alloc [(.int .i64 0), (.int .i64 0), (.string ⟨#[]⟩)]⟩,
    ⟨(some 5), none, .act, .mv (.const (.int .i64 0))⟩])
  (.seq (.region [
    ⟨(some 10), none, .act, .load true 8 (.tmp 2)⟩,
    ⟨(some 11), none, .act, .mv (.tmp 1)⟩,
    ⟨(some 12), none, .act, .call 34 [(.tmp 10), (.tmp 11)]⟩,
    ⟨(some 9), none, .act, .mv (.tmp 12)⟩,
    ⟨(some 13), none, .act, .extract (.tmp 9) 0⟩,
    ⟨(some 14), none, .act, .extract (.tmp 9) 1⟩,
    ⟨(some 6), none, .act, .alloc [(.int .i64 0), (.string ⟨#[]⟩), (.string ⟨#[]⟩), (.int .i64 0), (.int .i64 0), (.int .i64 0), (.string ⟨#[]⟩), (.slice none 0 0)]⟩,
    ⟨none, none, .act, .store 8 (.tmp 6) (.tmp 13)⟩,
    ⟨(some 7), none, .act, .mv (.tmp 14)⟩])
  (.seq (.seq (.region [
    ⟨(some 15), none, .act, .mv (.tmp 7)⟩,
    ⟨(some 16), none, .act, .eq true .int (.tmp 15) (.const (.int .i64 0))⟩])
  (.cond (.tmp 16)
   (.seq (.region [
     ⟨(some 17), none, .act, .build [(.int .i64 0), (.int .i64 0), (.string ⟨#[]⟩)] []⟩,
     ⟨(some 18), none, .act, .mv (.tmp 7)⟩,
     ⟨none, none, .act, .store 3 (.tmp 4) (.tmp 17)⟩,
     ⟨(some 5), none, .act, .mv (.tmp 18)⟩])
   .ret)
   .skip))
  (.seq (.region [
    ⟨(some 8), none, .act, .mv (.const (.slice none 0 0))⟩])
  (.seq (.seq (.region [
    ⟨(some 19), none, .act, .mv (.tmp 1)⟩,
    ⟨(some 20), none, .act, .len (.tmp 19)⟩,
    ⟨(some 21), none, .act, .bin .gtr (.tmp 20) (.const (.int .i64 0))⟩])
  (.cond (.tmp 21)
   (.region [
     ⟨(some 22), none, .act, .mv (.tmp 1)⟩,
     ⟨(some 23), none, .act, .indexAddr 1 (.tmp 22) (.const (.int .i64 0))⟩,
     ⟨(some 24), none, .act, .load false 1 (.tmp 23)⟩,
     ⟨(some 8), none, .act, .mv (.tmp 24)⟩])
   .skip))
  (.seq (.region [
    ⟨(some 25), none, .act, .load true 8 (.tmp 6)⟩,
    ⟨(some 26), none, .act, .mv (.tmp 8)⟩,
    ⟨(some 27), none, .act, .call 35 [(.tmp 25), (.tmp 26)]⟩,
    ⟨(some 28), none, .act, .extract (.tmp 27) 0⟩,
    ⟨(some 29), none, .act, .extract (.tmp 27) 1⟩,
    ⟨none, none, .act, .store 3 (.tmp 4) (.tmp 28)⟩,
    ⟨(some 5), none, .act, .mv (.tmp 29)⟩])
  .ret))))))
theorem res24 : ∃ c, Try.f24.body = some c ∧ resCode Try.prog 30 c = some r24 := ⟨_, rfl, by kernel_rfl⟩
theorem rr24 : resRes Try.prog Try.f24.results.toList = some [.cell 4 true 3, .tmp 5] := by kernel_rfl
theorem over_count (g : List Row) (h : AHeap) : ACalls Try.prog 24 [countA, rowsA g] h (fun x h' => x = .tu [.ag [i64 1, i64 g.length, str []], i64 0] ∧ h' = h) := by
  have c34 := fun h => reduced_count g h
  have c35 : ∀ r h, ACalls Try.prog 35 [.ag [i64 1, str [], str [], i64 0, i64 1, i64 g.length, str [], exprs []], rowA r] h (fun x h' => x = .tu [.ag [i64 1, i64 g.length, str []], i64 0] ∧ h' = h) := fun r h => eval_lit [] [] 0 1 g.length [] r h
  have c35n : ∀ h, ACalls Try.prog 35 [.ag [i64 1, str [], str [], i64 0, i64 1, i64 g.length, str [], exprs []], .v (.slice none 0 0)] h (fun x h' => x = .tu [.ag [i64 1, i64 g.length, str []], i64 0] ∧ h' = h) := fun h => ACalls.args (c35 [] h) (.cons (.refl _) (.cons (.nilSl 3 (c := .ro) trivial) .nil))
  have hlen : (g.map fun r => [rowA r]).length = g.length := by simp
  obtain ⟨c', hc1, hc2⟩ := res24
  refine ACalls.weak (ACalls.enter Try.func24 hc1 Try.ntmps24 hc2 (Nat.le_of_ble_eq_true rfl) rfl ?_)
  generalize hgn : (g.length : Int) = n at c34 c35 c35n ⊢
  cases g with
  | nil =>
    have hlen0 : (([] : List Row).map fun r => [rowA r]).length = 0 := rfl
    repeat' (first | refine S.nilK ?_ | (refine S.op rfl ?_; first | refine callS rfl rfl (c34 _) ?_ | refine callS rfl rfl (c35n _) ?_ | refine R.mv rfl ?_ | refine R.load (by decide) rfl (by (repeat' (first | exact AHeap.set_same _ _ _ | refine AHeap.get_fresh ‹_› ?_)); first | done | fail) rfl ?_ | refine R.len rfl ?_ | refine R.extract rfl rfl ?_ | refine R.alloc rfl (fun b hb => ?_) | refine R.box rfl rfl rfl (fun b hb => ?_) | ((first | refine S.gtr rfl rfl ?_ ?_ | refine S.eqInt rfl rfl ?_ ?_) <;> intro hlt <;> try (exfalso; omega))) | (refine S.op0 rfl ?_; first | refine S.storeS rfl rfl rfl (by rfl) rfl (by first | decide | exact Nat.le_refl _ | exact Nat.le_of_ble_eq_true rfl) ?_ | refine S.store rfl rfl (by (repeat' (first | exact AHeap.set_same _ _ _ | refine AHeap.get_fresh ‹_› ?_)); first | done | fail) rfl rfl rfl (by rfl) rfl ?_) | refine S.seq ?_ | refine S.region ?_ | refine S.condF rfl ?_ | refine RRun.skip ?_)
    apply S.ret rr24
    case hx => repeat (first | exact ResAt.nil | apply ResAt.tmp rfl | apply ResAt.cellA rfl (by (repeat' (first | exact AHeap.set_same _ _ _)); first | done | fail) (by rfl))
    exact ⟨_, h, .refl _, (by repeat (first | exact AHeap.le.refl _ | refine AHeap.le.set ?_ _ (by (repeat' (first | assumption | exact AHeap.z1 ‹_› | exact AHeap.z2 ‹_›)); first | done | fail))), rfl, rfl⟩
  | cons r g =>
    have h1 : ((r :: g).map fun r => [rowA r])[(0 : Int).toNat]? = some [rowA r] := rfl
    have hpos : 0 < ((r :: g).map fun r => [rowA r]).length := by simp
    repeat' (first | refine S.nilK ?_ | (refine S.op rfl ?_; first | refine callS rfl rfl (c34 _) ?_ | refine callS rfl rfl (c35 _ _) ?_ | refine R.indexAddr rfl rfl (by omega) h1 ?_ | refine R.mv rfl ?_ | refine R.loadR rfl rfl ?_ | refine R.load (by decide) rfl (by (repeat' (first | exact AHeap.set_same _ _ _ | refine AHeap.get_fresh ‹_› ?_)); first | done | fail) rfl ?_ | refine R.len rfl ?_ | refine R.extract rfl rfl ?_ | refine R.alloc rfl (fun b hb => ?_) | refine R.box rfl rfl rfl (fun b hb => ?_) | ((first | refine S.gtr rfl rfl ?_ ?_ | refine S.eqInt rfl rfl ?_ ?_) <;> intro hlt <;> try (exfalso; omega))) | (refine S.op0 rfl ?_; first | refine S.storeS rfl rfl rfl (by rfl) rfl (by first | decide | exact Nat.le_refl _ | exact Nat.le_of_ble_eq_true rfl) ?_ | refine S.store rfl rfl (by (repeat' (first | exact AHeap.set_same _ _ _ | refine AHeap.get_fresh ‹_› ?_)); first | done | fail) rfl rfl rfl (by rfl) rfl ?_) | refine S.seq ?_ | refine S.region ?_ | refine S.condT rfl ?_ | refine S.condF rfl ?_ | refine RRun.skip ?_)
    apply S.ret rr24
    case hx => repeat (first | exact ResAt.nil | apply ResAt.tmp rfl | apply ResAt.cellA rfl (by (repeat' (first | exact AHeap.set_same _ _ _)); first | done | fail) (by rfl))
    exact ⟨_, h, .refl _, (by repeat (first | exact AHeap.le.refl _ | refine AHeap.le.set ?_ _ (by (repeat' (first | assumption | exact AHeap.z1 ‹_› | exact AHeap.z2 ‹_›)); first | done | fail))), rfl, rfl⟩
abbrev groupsA (l : List (List Row)) : AV := .sl 1 (l.map fun g => [rowsA g]) .ro
def r10l1 : RCode :=
  (.seq (.region [
    ⟨(some 36), none, .act, .bin .lss (.tmp 35) (.tmp 34)⟩])
  (.seq (.cond (.tmp 36)
   .skip
   (.exit 2))
  (.seq (.block 3
   (.seq (.region [
     ⟨(some 37), none, .act, .indexAddr 8 (.tmp 33) (.tmp 35)⟩,
     ⟨(some 38), none, .act, .load true 8 (.tmp 37)⟩,
     ⟨(some 15), none, .act, .alloc [(.int .i64 0), (.string ⟨#[]⟩), (.string ⟨#[]⟩), (.int .i64 0), (.int .i64 0), (.int .i64 0), (.string ⟨#[]⟩), (.slice none 0 0)]⟩,
     ⟨none, none, .act, .store 8 (.tmp 15) (.tmp 38)⟩])
   (.seq (.region [
     ⟨(some 40), none, .act, .load true 8 (.tmp 15)⟩,
     ⟨(some 41), none, .act, .mv (.tmp 12)⟩,
     ⟨(some 42), none, .act, .call 24 [(.tmp 40), (.tmp 41)]⟩,
     ⟨(some 39), none, .act, .mv (.tmp 42)⟩,
     ⟨(some 43), none, .act, .extract (.tmp 39) 0⟩,
     ⟨(some 44), none, .act, .extract (.tmp 39) 1⟩,
     ⟨(some 16), none, .act, .alloc [(.int .i64 0), (.int .i64 0), (.string ⟨#[]⟩)]⟩,
     ⟨none, none, .act, .store 3 (.tmp 16) (.tmp 43)⟩,
     ⟨(some 17), none, .act, .mv (.tmp 44)⟩])
   (.seq (.seq (.region [
     ⟨(some 45), none, .act, .mv (.tmp 17)⟩,
     ⟨(some 46), none, .act, .eq true .int (.tmp 45) (.const (.int .i64 0))⟩])
   (.cond (.tmp 46)
    (.seq (.region [
      ⟨(some 47), none, .act, .mv (.tmp 17)⟩,
      ⟨(some 6), none, .act, .mv (.const (.slice none 0 0))⟩,
      ⟨(some 7), none, .act, .mv (.tmp 47)⟩])
    .ret)
    .skip))
   (.region [
     ⟨(some 48), none, .act, .mv (.tmp 13)⟩,
     ⟨(some 49), none, .act, .load true 3 (.tmp 16)⟩,
     ⟨(some 50), none, .act, .buildSl 3 [(.int .i64 0), (.int .i64 0), (.string ⟨#[]⟩)] 1 [(0, (.tmp 49))]⟩,
     ⟨(some 51), none, .act, .append 3 32 [(.int .i64 0), (.int .i64 0), (.string ⟨#[]⟩)] (.tmp 48) (.tmp 50)⟩,
     ⟨(some 13), none, .act, .mv (.tmp 51)⟩])))))
  (.region [
    ⟨(some 52), none, .act, .bin .add (.tmp 35) (.const (.int .i64 1))⟩,
    ⟨(some 35), none, .act, .mv (.tmp 52)⟩]))))
def r10l0 : RCode :=
  (.seq (.region [
    ⟨(some 30), none, .act, .bin .lss (.tmp 29) (.tmp 28)⟩])
  (.seq (.cond (.tmp 30)
   .skip
   (.exit 0))
  (.seq (.block 1
   (.seq (.region [
     ⟨(some 31), none, .act, .indexAddr 1 (.tmp 27) (.tmp 29)⟩,
     ⟨(some 32), none, .act, .load false 1 (.tmp 31)⟩,
     ⟨(some 12), none, .act, .mv (.tmp 32)⟩])
   (.seq (.region [
     ⟨(some 13), none, .act, .mv (.const (.slice none 0 0))⟩])
   (.seq (.seq (.region [
     ⟨(some 33), none, .act, .mv (.tmp 2)⟩,
     ⟨(some 34), none, .act, .len (.tmp 33)⟩,
     ⟨(some 35), none, .act, .mv (.const (.int .i64 0))⟩])
   (.block 2
    (.loop r10l1)))
   (.region [
     ⟨(some 53), none, .act, .mv (.tmp 10)⟩,
     ⟨(some 54), none, .act, .mv (.tmp 13)⟩,
     ⟨(some 55), none, .act, .buildSl 1 [(.slice none 0 0)] 1 [(0, (.tmp 54))]⟩,
     ⟨(some 56), none, .act, .append 1 24 [(.slice none 0 0)] (.tmp 53) (.tmp 55)⟩,
     ⟨(some 10), none, .act, .mv (.tmp 56)⟩])))))
  (.region [
    ⟨(some 57), none, .act, .bin .add (.tmp 29) (.const (.int .i64 1))⟩,
    ⟨(some 29), none, .act, .mv (.tmp 57)⟩]))))
def r10 : RCode :=
  (.seq (.region [
    ⟨(some 6), none, .act, .mv (.const (.slice none 0 0))⟩,
    ⟨(some 7), none, .act, .mv (.const (.int .i64 0))⟩])
  (.seq (.region [
    ⟨(some 19), none, .act, .mv (.tmp 0)⟩,
    ⟨(some 20), none, .act, .mv (.tmp 1)⟩,
    ⟨(some 21), none, .act, .call 23 [(.tmp 19), (.tmp 20)]⟩,
    ⟨(some 18), none, .act, .mv (.tmp 21)⟩,
    ⟨(some 22), none, .act, .extract (.tmp 18) 0⟩,
    ⟨(some 23), none, .act, .extract (.tmp 18) 1⟩,
    ⟨(some 8), none, .act, .mv (.tmp 22)⟩,
    ⟨(some 9), none, .act, .mv (.tmp 23)⟩])
  (.seq (.seq (.region [
    ⟨(some 24), none, .act, .mv (.tmp 9)⟩,
    ⟨(some 25), none, .act, .eq true .int (.tmp 24) (.const (.int .i64 0))⟩])
  (.cond (.tmp 25)
   (.seq (.region [
     ⟨(some 26), none, .act, .mv (.tmp 9)⟩,
     ⟨(some 6), none, .act, .mv (.const (.slice none 0 0))⟩,
     ⟨(some 7), none, .act, .mv (.tmp 26)⟩])
   .ret)
   .skip))
  (.seq (.region [
    ⟨(some 10), none, .act, .mv (.const (.slice none 0 0))⟩])
  (.seq (.seq (.region [
    ⟨(some 27), none, .act, .mv (.tmp 8)⟩,
    ⟨(some 28), none, .act, .len (.tmp 27)⟩,
    ⟨(some 29), none, .act, .mv (.const (.int .i64 0))⟩])
  (.block 0
   (.loop r10l0)))
  (.seq (.region [
    ⟨(some 58), none, .act, .mv (.tmp 10)⟩,
    ⟨(some 6), none, .act, .mv (.tmp 58)⟩,
    ⟨(some 7), none, .act, .mv (.const (.int .i64 0))⟩])
  .ret))))))
theorem res10 : ∃ c, Try.f10.body = some c ∧ resCode Try.prog 59 c = some r10 := ⟨_, rfl, by kernel_rfl⟩
theorem rr10 : resRes Try.prog Try.f10.results.toList = some [.tmp 6, .tmp 7] := by kernel_rfl
def r10k : RCode :=
  (.region [
     ⟨(some 53), none, .act, .mv (.tmp 10)⟩,
     ⟨(some 54), none, .act, .mv (.tmp 13)⟩,
     ⟨(some 55), none, .act, .buildSl 1 [(.slice none 0 0)] 1 [(0, (.tmp 54))]⟩,
     ⟨(some 56), none, .act, .append 1 24 [(.slice none 0 0)] (.tmp 53) (.tmp 55)⟩,
     ⟨(some 10), none, .act, .mv (.tmp 56)⟩])
theorem group_loop (gs : List (List Row)) (hl : gs.length ≤ 1000) (h₀ : AHeap) (k : List RT) (Q : AV → AHeap → Prop)
    (hk : ∀ c h, Grow h₀ h c → RRun Try.prog Try.f10 59 k (Env.get [(10, rowsC (gs.map fun g => [nV g.length]) c)]) h Q) : ∀ (m i : Nat) (c : Cap) (h : AHeap), i + m = gs.length → Grow h₀ h c →
    RRun Try.prog Try.f10 59 (.inLoop r10l0 :: .inBlock 0 :: k) (Env.get [(2, .sl 8 [[i64 20, str [], str [], i64 0, i64 0, i64 0, str [], exprs []]] .ro), (10, rowsC ((gs.take i).map fun g => [nV g.length]) c), (27, groupsA gs), (28, i64 gs.length), (29, i64 i)]) h Q := by
  intro m
  induction m with
  | zero =>
    intro i c h hi hg
    rw [List.take_of_length_le (by omega)]
    refine RRun.inLoop ?_
    repeat' (first | refine S.nilK ?_ | (refine S.op rfl ?_; first | ((first | refine S.lss rfl rfl ?_ ?_) <;> intro hlt <;> try (exfalso; omega))) | refine S.seq ?_ | refine S.region ?_ | refine S.condF rfl ?_ | refine RRun.exit rfl ?_)
    exact S.keep [10] rfl (hk c h hg)
  | succ m ih =>
    intro i c h hi hg
    have hie : i < gs.length := by omega
    have h1 : (gs.map fun g => [rowsA g])[((i : Nat) : Int).toNat]? = some [rowsA gs[i]] := by simp [hie]
    have h2 : ([[i64 20, str [], str [], i64 0, i64 0, i64 0, str [], exprs []]] : List (List AV))[(0 : Int).toNat]? = some [i64 20, str [], str [], i64 0, i64 0, i64 0, str [], exprs []] := rfl
    have hlen1 : ([[i64 20, str [], str [], i64 0, i64 0, i64 0, str [], exprs []]] : List (List AV)).length = 1 := rfl
    have c24 := fun h => over_count gs[i] h
    have hlen : (((gs.take i).map fun g => [nV g.length]).map fun r => [rowA r]).length = i := by simp; omega
    have hnext : (((gs.take i).map fun g => [nV g.length]).map fun r => [rowA r]) ++ [[rowA [nV gs[i].length]]] = (((gs.take (i + 1)).map fun g => [nV g.length]).map fun r => [rowA r]) := by
      rw [List.take_add_one, List.getElem?_eq_getElem hie, Option.toList_some, List.map_append, List.map_append, List.map_singleton, List.map_singleton]
    have hcell : ∀ n : Nat, [i64 1, i64 n, str []] = (nV n).cells := fun _ => rfl
    generalize gs[i] = g at h1 c24 hnext
    refine RRun.inLoop ?_
    repeat' (first | ((show RRunG _ _ _ (.code (.loop r10l1) :: _) _ _ _; refine RRun.loopIn ?_)) | ((show RRunG _ _ _ (.inLoop r10l1 :: _) _ _ _; refine RRun.inLoop ?_)) | refine S.nilK ?_ | (refine S.op rfl ?_; first | refine R.indexAddr rfl rfl (by omega) h1 ?_ | refine R.indexAddr rfl rfl (by omega) h2 ?_ | refine callS rfl rfl (c24 _) ?_ | refine R.mv rfl ?_ | refine R.loadR rfl rfl ?_ | refine R.load (by decide) rfl (by (repeat' (first | exact AHeap.set_same _ _ _)); first | done | fail) rfl ?_ | refine R.len rfl ?_ | refine R.extract rfl rfl ?_ | refine R.alloc rfl (fun b hb => ?_) | refine R.buildSl rfl rfl rfl (by decide) ?_ | ((first | refine S.lss rfl rfl ?_ ?_ | refine S.eqInt rfl rfl ?_ ?_) <;> intro hlt <;> try (exfalso; omega))) | (refine S.op0 rfl ?_; first | refine S.storeS rfl rfl rfl (by rfl) rfl (by first | decide | exact Nat.le_refl _ | exact Nat.le_of_ble_eq_true rfl) ?_) | refine S.seq ?_ | refine S.region ?_ | refine S.condT rfl ?_ | refine S.condF rfl ?_ | refine RRun.skip ?_ | refine RRun.block ?_)
    refine S.op rfl (S.appendG (h₀ := h) (ys := [(nV g.length).cells]) rfl (.of_le (by repeat (first | exact AHeap.le.refl _ | refine AHeap.le.set ?_ _ (by (repeat' (first | assumption | exact AHeap.z1 ‹_›)); first | done | fail)))) rfl .nil rfl (.sl _ _) (vals_one [nV g.length]) (by simp) (by simp) (fun c4 h4 hg4 _ => ?_))
    repeat' (first | ((show RRunG _ _ _ (.code r10k :: _) _ _ _; refine S.keep [2, 10, 13, 27, 28, 29] rfl (RRun.envs (.cons 2 (.refl _) (.cons 10 (.refl _) (.cons 13 (.toRo 3 [(nV g.length).cells] _) (.cons 27 (.refl _) (.cons 28 (.refl _) (.cons 29 (.refl _) .nil)))))) (S.drop hg4.le ?_)); refine Stop.h ?_)) | ((show RRunG _ _ _ (.inLoop r10l1 :: _) _ _ _; refine RRun.inLoop ?_)) | refine S.nilK ?_ | (refine S.op rfl ?_; first | refine R.mv rfl ?_ | refine S.addI rfl rfl (by omega) ?_ | ((first | refine S.lss rfl rfl ?_ ?_) <;> intro hlt <;> try (exfalso; omega))) | refine S.seq ?_ | refine S.region ?_ | refine S.condF rfl ?_ | refine RRun.inBlock ?_ | refine RRun.exit rfl ?_)
    refine ⟨?_⟩
    clear hg4
    repeat' (first | (refine S.op rfl ?_; first | refine R.mv rfl ?_ | refine R.buildSl rfl rfl rfl (by decide) ?_) | refine S.region ?_)
    refine S.op rfl (S.appendG rfl hg rfl (.sl _ _) rfl (.sl [[rowA [nV g.length]]] _) (row_one _) (by rw [hlen]; simp; omega) (by rw [hlen]; simp; omega) (fun c' h' hg' hbox => ?_))
    repeat' (first | refine S.nilK ?_ | (refine S.op rfl ?_; first | refine R.mv rfl ?_ | refine S.addI rfl rfl (by omega) ?_) | refine S.region ?_ | refine RRun.inBlock ?_)
    rw [hnext, show ((i : Int) + 1) = ((i + 1 : Nat) : Int) by omega]
    exact S.keep [2, 10, 27, 28, 29] rfl (ih (i + 1) _ _ (by omega) hg')
theorem group_spec (a0 a1 : AV) (gs : List (List Row)) (hl : gs.length ≤ 1000) (c23 : ∀ h, ACalls Try.prog 23 [a0, a1] h (fun x h' => x = .tu [groupsA gs, i64 0] ∧ h' = h)) (h : AHeap) :
    ACalls Try.prog 10 [a0, a1, .sl 8 [[i64 20, str [], str [], i64 0, i64 0, i64 0, str [], exprs []]] .ro] h (fun x h' => x = ansA (gs.map fun g => [nV g.length], 0) ∧ h' = h) := by
  obtain ⟨c', hc1, hc2⟩ := res10
  refine ACalls.weak (ACalls.enter Try.func10 hc1 Try.ntmps10 hc2 (Nat.le_of_ble_eq_true rfl) rfl ?_)
  have hlen : (gs.map fun g => [rowsA g]).length = gs.length := by simp
  repeat' (first | refine S.nilK ?_ | (refine S.op rfl ?_; first | refine callS rfl rfl (c23 _) ?_ | refine R.mv rfl ?_ | refine R.len rfl ?_ | refine R.extract rfl rfl ?_ | ((first | refine S.eqInt rfl rfl ?_ ?_) <;> intro hlt <;> try (exfalso; omega))) | refine S.seq ?_ | refine S.region ?_ | refine S.condF rfl ?_ | refine RRun.skip ?_ | refine RRun.block ?_)
  rw [hlen]
  refine RRun.loopIn (S.keep [2, 10, 27, 28, 29] rfl (RRun.envs (.cons 2 (.refl _) (.cons 10 (.nilSl 1 (c := .full) trivial) (.cons 27 (.refl _) (.cons 28 (.refl _) (.cons 29 (.refl _) .nil))))) (group_loop gs hl h _ _ (fun c h1 hg => ?_) gs.length 0 .full h (by omega) (Grow.start h))))
  repeat' (first | refine S.nilK ?_ | (refine S.op rfl ?_; first | refine R.mv rfl ?_) | refine S.seq ?_ | refine S.region ?_)
  apply S.ret rr10
  case hx => repeat (first | exact ResAt.nil | apply ResAt.tmp rfl)
  exact ⟨_, h, .tu (.cons (.toRo _ _ _) (.cons (.refl _) .nil)), hg.le, rfl, rfl⟩
def r23l0 : RCode :=
  (.seq (.region [
    ⟨(some 19), none, .act, .bin .lss (.tmp 18) (.tmp 17)⟩])
  (.seq (.cond (.tmp 19)
   .skip
   (.exit 0))
  (.seq (.block 1
   (.seq (.region [
     ⟨(some 20), none, .act, .indexAddr 1 (.tmp 16) (.tmp 18)⟩,
     ⟨(some 21), none, .act, .load false 1 (.tmp 20)⟩,
     ⟨(some 9), none, .act, .mv (.tmp 21)⟩])
   (.seq (.region [
     ⟨(some 23), none, .act, .mv (.tmp 1)⟩,
     ⟨(some 24), none, .act, .mv (.tmp 9)⟩,
     ⟨(some 25), none, .act, .call 25 [(.tmp 23), (.tmp 24)]⟩,
     ⟨(some 22), none, .act, .mv (.tmp 25)⟩,
     ⟨(some 26), none, .act, .extract (.tmp 22) 0⟩,
     ⟨(some 27), none, .act, .extract (.tmp 22) 1⟩,
     ⟨(some 10), none, .act, .mv (.tmp 26)⟩,
     ⟨(some 11), none, .act, .mv (.tmp 27)⟩])
   (.seq (.seq (.region [
     ⟨(some 28), none, .act, .mv (.tmp 11)⟩,
     ⟨(some 29), none, .act, .eq true .int (.tmp 28) (.const (.int .i64 0))⟩])
   (.cond (.tmp 29)
    (.seq (.region [
      ⟨(some 30), none, .act, .mv (.tmp 11)⟩,
      ⟨(some 4), none, .act, .mv (.const (.slice none 0 0))⟩,
      ⟨(some 5), none, .act, .mv (.tmp 30)⟩])
    .ret)
    .skip))
   (.seq (.region [
     ⟨(some 31), none, .act, .mv (.tmp 10)⟩,
     ⟨(some 32), none, .act, .call 33 [(.tmp 31)]⟩,
     ⟨(some 12), none, .act, .mv (.tmp 32)⟩])
   (.seq (.region [
     ⟨(some 34), none, .act, .mv (.tmp 7)⟩,
     ⟨(some 35), none, .act, .mv (.tmp 12)⟩,
     ⟨(some 36), none, .act, .lookup 9 (.int .i64 0) (.tmp 34) (.tmp 35) true⟩,
     ⟨(some 33), none, .act, .mv (.tmp 36)⟩,
     ⟨(some 37), none, .act, .extract (.tmp 33) 0⟩,
     ⟨(some 38), none, .act, .extract (.tmp 33) 1⟩,
     ⟨(some 13), none, .act, .mv (.tmp 37)⟩,
     ⟨(some 14), none, .act, .mv (.tmp 38)⟩])
   (.seq (.seq (.region [
     ⟨(some 39), none, .act, .mv (.tmp 14)⟩,
     ⟨(some 40), none, .act, .un .not (.tmp 39)⟩])
   (.cond (.tmp 40)
    (.seq (.region [
      ⟨(some 41), none, .act, .mv (.tmp 6)⟩,
      ⟨(some 42), none, .act, .len (.tmp 41)⟩,
      ⟨(some 13), none, .act, .mv (.tmp 42)⟩])
    (.seq (.region [
      ⟨(some 43), none, .act, .mv (.tmp 7)⟩,
      ⟨(some 44), none, .act, .mv (.tmp 12)⟩,
      ⟨(some 45), none, .act, .mv (.tmp 13)⟩,
      ⟨none, none, .act, .mapUpdate 9 (.tmp 43) (.tmp 44) (.tmp 45)⟩])
    (.region [
      ⟨(some 46), none, .act, .mv (.tmp 6)⟩,
      ⟨(some 47), none, .act, .buildSl 1 [(.slice none 0 0)] 1 [(0, (.const (.slice none 0 0)))]⟩,
      ⟨(some 48), none, .act, .append 1 24 [(.slice none 0 0)] (.tmp 46) (.tmp 47)⟩,
      ⟨(some 6), none, .act, .mv (.tmp 48)⟩])))
    .skip))
   (.region [
     ⟨(some 49), none, .act, .mv (.tmp 6)⟩,
     ⟨(some 50), none, .act, .mv (.tmp 13)⟩,
     ⟨(some 51), none, .act, .mv (.tmp 6)⟩,
     ⟨(some 52), none, .act, .mv (.tmp 13)⟩,
     ⟨(some 53), none, .act, .indexAddr 1 (.tmp 51) (.tmp 52)⟩,
     ⟨(some 54), none, .act, .load false 1 (.tmp 53)⟩,
     ⟨(some 55), none, .act, .mv (.tmp 9)⟩,
     ⟨(some 56), none, .act, .buildSl 1 [(.slice none 0 0)] 1 [(0, (.tmp 55))]⟩,
     ⟨(some 57), none, .act, .append 1 24 [(.slice none 0 0)] (.tmp 54) (.tmp 56)⟩,
     ⟨(some 58), none, .act, .indexAddr 1 (.tmp 49) (.tmp 50)⟩,
     ⟨none, none, .act, .store 1 (.tmp 58) (.tmp 57)⟩]))))))))
  (.region [
    ⟨(some 59), none, .act, .bin .add (.tmp 18) (.const (.int .i64 1))⟩,
    ⟨(some 18), none, .act, .mv (.tmp 59)⟩]))))
def r23 : RCode :=
  (.seq (.region [
    ⟨(some 4), none, .act, .mv (.const (.slice none 0 0))⟩,
    ⟨(some 5), none, .act, .mv (.const (.int .i64 0))⟩])
  (.seq (.region [
    ⟨(some 6), none, .act, .mv (.const (.slice none 0 0))⟩])
  (.seq (.region [
    ⟨(some 15), none, .act, .makeMap⟩,
    ⟨(some 7), none, .act, .mv (.tmp 15)⟩])
  (.seq (.seq (.region [
    ⟨(some 16), none, .act, .mv (.tmp 0)⟩,
    ⟨(some 17), none, .act, .len (.tmp 16)⟩,
    ⟨(some 18), none, .act, .mv (.const (.int .i64 0))⟩])
  (.block 0
   (.loop r23l0)))
  (.seq (.seq (.region [
    ⟨(some 60), none, .act, .mv (.tmp 1)⟩,
    ⟨(some 61), none, .act, .len (.tmp 60)⟩,
    ⟨(some 62), none, .act, .eq false .int (.tmp 61) (.const (.int .i64 0))⟩,
    ⟨(some 63), none, .act, .mv (.tmp 62)⟩,
    ⟨(some 64), (some (63, true)), .act, .mv (.tmp 6)⟩,
    ⟨(some 65), (some (63, true)), .act, .len (.tmp 64)⟩,
    ⟨(some 66), (some (63, true)), .act, .eq false .int (.tmp 65) (.const (.int .i64 0))⟩,
    ⟨(some 67), none, .act, .pick (.tmp 63) (.tmp 66) (.const (.bool false))⟩])
  (.cond (.tmp 67)
   (.region [
     ⟨(some 68), none, .act, .mv (.tmp 6)⟩,
     ⟨(some 69), none, .act, .buildSl 1 [(.slice none 0 0)] 1 [(0, (.const (.slice none 0 0)))]⟩,
     ⟨(some 70), none, .act, .append 1 24 [(.slice none 0 0)] (.tmp 68) (.tmp 69)⟩,
     ⟨(some 6), none, .act, .mv (.tmp 70)⟩])
   .skip))
  (.seq (.region [
    ⟨(some 71), none, .act, .mv (.tmp 6)⟩,
    ⟨(some 4), none, .act, .mv (.tmp 71)⟩,
    ⟨(some 5), none, .act, .mv (.const (.int .i64 0))⟩])
  .ret))))))
theorem res23 : ∃ c, Try.f23.body = some c ∧ resCode Try.prog 72 c = some r23 := ⟨_, rfl, by kernel_rfl⟩
theorem rr23 : resRes Try.prog Try.f23.results.toList = some [.tmp 4, .tmp 5] := by kernel_rfl
theorem groups_nil (h : AHeap) : ACalls Try.prog 23 [.v (.slice none 0 0), .v (.slice none 0 0)] h (fun x h' => x = .tu [groupsA [[]], i64 0] ∧ h' = h) := by
  obtain ⟨c', hc1, hc2⟩ := res23
  refine ACalls.weak (ACalls.enter Try.func23 hc1 Try.ntmps23 hc2 (Nat.le_of_ble_eq_true rfl) rfl ?_)
  repeat' (first | ((show RRunG _ _ _ (.code (.loop r23l0) :: _) _ _ _; refine RRun.loopIn ?_)) | ((show RRunG _ _ _ (.inLoop r23l0 :: _) _ _ _; refine RRun.inLoop ?_)) | refine S.nilK ?_ | (refine S.op rfl ?_; first | refine R.makeMap rfl (fun b hb => ?_) | refine R.mv rfl ?_ | refine R.pickT rfl rfl ?_ | refine R.lenA rfl ?_ | refine R.buildSl rfl rfl rfl (by decide) ?_ | ((first | refine S.lss rfl rfl ?_ ?_ | refine S.eqInt rfl rfl ?_ ?_) <;> intro hlt <;> try (exfalso; omega))) | refine S.seq ?_ | refine S.region ?_ | refine S.condT rfl ?_ | refine S.condF rfl ?_ | refine RRun.block ?_ | refine RRun.exit rfl ?_)
  refine S.op rfl (S.appendG (h₀ := h) (ys := [[.v (.slice none 0 0)]]) rfl (.of_le (by repeat (first | exact AHeap.le.refl _ | refine AHeap.le.set ?_ _ (by (repeat' (first | assumption)); first | done | fail)))) rfl .nil rfl (.sl _ _) (by intro e he a ha; simp at he; subst he; simp at ha; subst ha; rfl) (by simp) (by simp) (fun c4 h4 hg4 _ => ?_))
  repeat' (first | refine S.nilK ?_ | (refine S.op rfl ?_; first | refine R.mv rfl ?_) | refine S.seq ?_ | refine S.region ?_)
  apply S.ret rr23
  case hx => repeat (first | exact ResAt.nil | apply ResAt.tmp rfl)
  refine ⟨_, h, .tu (.cons (.trans (.sl (es' := [[rowsA []]]) ?_ rfl ?_) (.toRo _ _ _)) (.cons (.refl _) .nil)), hg4.le, rfl, rfl⟩
  · exact .cons (.nilSl 1 (c := .ro) trivial) .nil
  · intro e he; simp at he; subst he; rfl
def r7 : RCode :=
  (.seq (.region [
    ⟨(some 0), none, .act, .mv (.const (.bool false))⟩])
  (.seq (.region [
    ⟨(some 4), none, .act, .build [(.int .i64 0), (.string ⟨#[]⟩), (.string ⟨#[]⟩), (.int .i64 0), (.int .i64 0), (.int .i64 0), (.string ⟨#[]⟩), (.slice none 0 0)] [(0, 1, (.const (.int .i64 20)))]⟩,
    ⟨(some 5), none, .act, .buildSl 8 [(.int .i64 0), (.string ⟨#[]⟩), (.string ⟨#[]⟩), (.int .i64 0), (.int .i64 0), (.int .i64 0), (.string ⟨#[]⟩), (.slice none 0 0)] 1 [(0, (.tmp 4))]⟩,
    ⟨(some 6), none, .act, .call 10 [(.const (.slice none 0 0)), (.const (.slice none 0 0)), (.tmp 5)]⟩,
    ⟨(some 3), none, .act, .mv (.tmp 6)⟩,
    ⟨(some 7), none, .act, .extract (.tmp 3) 0⟩,
    ⟨(some 8), none, .act, .extract (.tmp 3) 1⟩,
    ⟨(some 1), none, .act, .mv (.tmp 7)⟩,
    ⟨(some 2), none, .act, .mv (.tmp 8)⟩])
  (.seq (.region [
    ⟨(some 9), none, .act, .mv (.tmp 2)⟩,
    ⟨(some 10), none, .act, .eq false .int (.tmp 9) (.const (.int .i64 0))⟩,
    ⟨(some 11), none, .act, .mv (.tmp 10)⟩,
    ⟨(some 12), (some (11, true)), .act, .mv (.tmp 1)⟩,
    ⟨(some 13), (some (11, true)), .act, .len (.tmp 12)⟩,
    ⟨(some 14), (some (11, true)), .act, .eq false .int (.tmp 13) (.const (.int .i64 1))⟩,
    ⟨(some 15), none, .act, .pick (.tmp 11) (.tmp 14) (.const (.bool false))⟩,
    ⟨(some 16), none, .act, .mv (.tmp 15)⟩,
    ⟨(some 17), (some (16, true)), .act, .mv (.tmp 1)⟩,
    ⟨(some 18), (some (16, true)), .act, .indexAddr 1 (.tmp 17) (.const (.int .i64 0))⟩,
    ⟨(some 19), (some (16, true)), .act, .load false 1 (.tmp 18)⟩,
    ⟨(some 20), (some (16, true)), .act, .len (.tmp 19)⟩,
    ⟨(some 21), (some (16, true)), .act, .eq false .int (.tmp 20) (.const (.int .i64 1))⟩,
    ⟨(some 22), none, .act, .pick (.tmp 16) (.tmp 21) (.const (.bool false))⟩,
    ⟨(some 23), none, .act, .mv (.tmp 22)⟩,
    ⟨(some 24), (some (23, true)), .act, .mv (.tmp 1)⟩,
    ⟨(some 25), (some (23, true)), .act, .indexAddr 1 (.tmp 24) (.const (.int .i64 0))⟩,
    ⟨(some 26), (some (23, true)), .act, .load false 1 (.tmp 25)⟩,
    ⟨(some 27), (some (23, true)), .act, .indexAddr 3 (.tmp 26) (.const (.int .i64 0))⟩,
    ⟨(some 28), (some (23, true)), .act, .load true 3 (.tmp 27)⟩,
    ⟨(some 29), (some (23, true)), .act, .build [(.int .i64 0), (.int .i64 0), (.string ⟨#[]⟩)] [(0, 1, (.const (.int .i64 1)))]⟩,
    ⟨(some 30), (some (23, true)), .act, .eq false (.agg [(0, .int), (1, .int), (2, .str)]) (.tmp 28) (.tmp 29)⟩,
    ⟨(some 31), none, .act, .pick (.tmp 23) (.tmp 30) (.const (.bool false))⟩,
    ⟨(some 0), none, .act, .mv (.tmp 31)⟩])
  .ret)))
theorem res7 : ∃ c, Try.f7.body = some c ∧ resCode Try.prog 32 c = some r7 := ⟨_, rfl, by kernel_rfl⟩
theorem rr7 : resRes Try.prog Try.f7.results.toList = some [.tmp 0] := by kernel_rfl
theorem awake_spec (h : AHeap) : ACalls Try.prog 7 [] h (fun x h' => x = bl true ∧ h' = h) := by
  have c10 : ∀ h, ACalls Try.prog 10 [.v (.slice none 0 0), .v (.slice none 0 0), .sl 8 [[i64 20, str [], str [], i64 0, i64 0, i64 0, str [], .v (.slice none 0 0)]] .full] h (fun x h' => x = .tu [.sl 1 [[.sl 3 [[i64 1, i64 0, str []]] .ro]] .ro, i64 0] ∧ h' = h) := fun h =>
    ACalls.args (group_spec _ _ [[]] (by decide) groups_nil h) (.cons (.refl _) (.cons (.refl _) (.cons (.trans (.sl (es' := [[i64 20, str [], str [], i64 0, i64 0, i64 0, str [], exprs []]]) (.cons (.refl _) (.cons (.refl _) (.cons (.refl _) (.cons (.refl _) (.cons (.refl _) (.cons (.refl _) (.cons (.refl _) (.cons (.nilSl 8 (c := .ro) trivial) .nil)))))))) rfl (by intro e he; simp at he; subst he; rfl)) (.toRo _ _ _)) .nil)))
  have h1 : ([[.sl 3 [[i64 1, i64 0, str []]] .ro]] : List (List AV))[(0 : Int).toNat]? = some [.sl 3 [[i64 1, i64 0, str []]] .ro] := rfl
  have h2 : ([[i64 1, i64 0, str []]] : List (List AV))[(0 : Int).toNat]? = some [i64 1, i64 0, str []] := rfl
  have hlen : ([[.sl 3 [[i64 1, i64 0, str []]] .ro]] : List (List AV)).length = 1 := rfl
  have hlen2 : ([[i64 1, i64 0, str []]] : List (List AV)).length = 1 := rfl
  have hag := same_agg ⟨1, 0, []⟩
  simp only at hag
  obtain ⟨c', hc1, hc2⟩ := res7
  refine ACalls.weak (ACalls.enter Try.func7 hc1 Try.ntmps7 hc2 (Nat.le_of_ble_eq_true rfl) rfl ?_)
  repeat' (first | refine S.nilK ?_ | (refine S.op rfl ?_; first | refine callS rfl rfl (c10 _) ?_ | refine R.indexAddr rfl rfl (by omega) h1 ?_ | refine R.indexAddr rfl rfl (by omega) h2 ?_ | refine R.eqAgg (xs := [.int .i64 1, .int .i64 0, .string ⟨#[]⟩]) (ys := [.int .i64 1, .int .i64 0, .string ⟨#[]⟩]) rfl rfl hag ?_ | refine R.mv rfl ?_ | refine R.loadR rfl rfl ?_ | refine R.pickT rfl rfl ?_ | refine R.len rfl ?_ | refine R.extract rfl rfl ?_ | refine R.build rfl rfl ?_ | refine R.buildSl rfl rfl rfl (by decide) ?_ | ((first | refine S.eqInt rfl rfl ?_ ?_) <;> intro hlt <;> try (exfalso; omega))) | refine S.seq ?_ | refine S.region ?_)
  apply S.ret rr7
  case hx => repeat (first | exact ResAt.nil | apply ResAt.tmp rfl)
  exact ⟨_, h, .refl _, (by repeat (first | exact AHeap.le.refl _)), rfl, rfl⟩
end Go.Proofs.Ythadifboeggnpaa

namespace Go.Proofs.Ythadifboeggnpaa
open Go.Av
abbrev byC (b : List UInt8) (c : Cap) : AV := .sl 1 (Go.Av.byteCells b) c
def flipN (n : Int) : Int := IntKind.u64.wrap (BitVec.ofInt 64 (IntKind.u64.wrap n) ^^^ BitVec.ofInt 64 9223372036854775808).toNat
def byteN (x : Int) : UInt8 := UInt8.ofNat (IntKind.u8.wrap x).toNat
def putB (u : Int) : List UInt8 := [byteN (u.fdiv (2 ^ 56)), byteN (u.fdiv (2 ^ 48)), byteN (u.fdiv (2 ^ 40)), byteN (u.fdiv (2 ^ 32)), byteN (u.fdiv (2 ^ 24)), byteN (u.fdiv (2 ^ 16)), byteN (u.fdiv (2 ^ 8)), byteN (u.fdiv (2 ^ 0))]
def esc (s : List UInt8) : List UInt8 := s.flatMap fun b => if b = 0 then [0, 255] else [b]
def putV (v : Val) : List UInt8 := if v.kind = 1 then 2 :: putB (flipN v.n) else if v.kind = 2 then 3 :: (esc v.s ++ [0, 1]) else [1]
theorem byteN_val (x : Int) : Value.int .u8 (IntKind.u8.wrap x) = .int .u8 ((byteN x).toNat : Int) := by
  have h : 0 ≤ IntKind.u8.wrap x ∧ IntKind.u8.wrap x < 256 := by
    simp only [IntKind.wrap, IntKind.bits, IntKind.signed]
    simp
    omega
  unfold byteN
  congr 1
  generalize IntKind.u8.wrap x = y at h
  rw [UInt8.toNat_ofNat_of_lt' (by simp only [UInt8.size]; omega)]
  omega
theorem esc_len (s : List UInt8) : (esc s).length ≤ 2 * s.length := by
  unfold esc
  induction s with
  | nil => simp
  | cons b s ih =>
    rw [List.flatMap_cons, List.length_append, List.length_cons]
    have : (if b = 0 then [(0 : UInt8), 255] else [b]).length ≤ 2 := by split <;> simp
    omega
theorem putV_len (v : Val) : (putV v).length ≤ 2 * v.s.length + 9 := by
  have := esc_len v.s
  unfold putV
  split
  · simp [putB]
  · split
    · simp; omega
    · simp
def r56 : RCode :=
  (.seq (.region [
    ⟨(some 2), none, .act, .mv (.const (.int .u64 0))⟩])
  (.seq (.region [
    ⟨(some 3), none, .act, .mv (.tmp 0)⟩,
    ⟨(some 4), none, .act, .convInt .u64 (.tmp 3)⟩,
    ⟨(some 5), none, .act, .bin .xor (.tmp 4) (.const (.int .u64 9223372036854775808))⟩,
    ⟨(some 2), none, .act, .mv (.tmp 5)⟩])
  .ret))
theorem res56 : ∃ c, Try.f56.body = some c ∧ resCode Try.prog 6 c = some r56 := ⟨_, rfl, by kernel_rfl⟩
theorem rr56 : resRes Try.prog Try.f56.results.toList = some [.tmp 2] := by kernel_rfl
theorem flip_spec (n : Int) (h : AHeap) : ACalls Try.prog 56 [i64 n] h (fun x h' => x = .v (.int .u64 (flipN n)) ∧ h' = h) := by
  obtain ⟨c', hc1, hc2⟩ := res56
  refine ACalls.enter Try.func56 hc1 Try.ntmps56 hc2 (Nat.le_of_ble_eq_true rfl) rfl ?_
  repeat' (first | refine S.nilK ?_ | (refine S.op rfl ?_; first | refine R.convInt rfl ?_ | refine R.bin rfl rfl (by rfl) ?_ | refine R.mv rfl ?_) | refine S.seq ?_ | refine S.region ?_)
  apply S.ret rr56
  case hx => repeat (first | exact ResAt.nil | apply ResAt.tmp rfl)
  exact ⟨rfl, rfl⟩
def r55l0 : RCode :=
  (.seq (.region [
    ⟨(some 17), none, .act, .bin .lss (.tmp 16) (.tmp 15)⟩])
  (.seq (.cond (.tmp 17)
   .skip
   (.exit 0))
  (.seq (.block 1
   (.seq (.region [
     ⟨(some 18), none, .act, .mv (.tmp 16)⟩,
     ⟨(some 6), none, .act, .mv (.tmp 18)⟩])
   (.region [
     ⟨(some 19), none, .act, .mv (.tmp 5)⟩,
     ⟨(some 20), none, .act, .mv (.tmp 1)⟩,
     ⟨(some 21), none, .act, .bin .sub (.tmp 20) (.const (.int .i64 1))⟩,
     ⟨(some 22), none, .act, .mv (.tmp 6)⟩,
     ⟨(some 23), none, .act, .bin .sub (.tmp 21) (.tmp 22)⟩,
     ⟨(some 24), none, .act, .mv (.tmp 0)⟩,
     ⟨(some 25), none, .act, .mv (.tmp 6)⟩,
     ⟨(some 26), none, .act, .bin .mul (.const (.int .i64 8)) (.tmp 25)⟩,
     ⟨(some 27), none, .act, .bin .shr (.tmp 24) (.tmp 26)⟩,
     ⟨(some 28), none, .act, .convInt .u8 (.tmp 27)⟩,
     ⟨(some 29), none, .act, .indexAddr 1 (.tmp 19) (.tmp 23)⟩,
     ⟨none, none, .act, .store 1 (.tmp 29) (.tmp 28)⟩])))
  (.region [
    ⟨(some 30), none, .act, .bin .add (.tmp 16) (.const (.int .i64 1))⟩,
    ⟨(some 16), none, .act, .mv (.tmp 30)⟩]))))
def r55 : RCode :=
  (.seq (.region [
    ⟨(some 4), none, .act, .mv (.const (.slice none 0 0))⟩])
  (.seq (.seq (.region [
    ⟨(some 7), none, .act, .mv (.tmp 1)⟩,
    ⟨(some 8), none, .act, .bin .lss (.tmp 7) (.const (.int .i64 0))⟩,
    ⟨(some 9), none, .act, .mv (.tmp 8)⟩,
    ⟨(some 10), (some (9, false)), .act, .mv (.tmp 1)⟩,
    ⟨(some 11), (some (9, false)), .act, .bin .gtr (.tmp 10) (.const (.int .i64 8))⟩,
    ⟨(some 12), none, .act, .pick (.tmp 9) (.const (.bool true)) (.tmp 11)⟩])
  (.cond (.tmp 12)
   (.seq (.region [
     ⟨(some 4), none, .act, .mv (.const (.slice none 0 0))⟩])
   .ret)
   .skip))
  (.seq (.region [
    ⟨(some 13), none, .act, .mv (.tmp 1)⟩,
    ⟨(some 14), none, .act, .makeSl 1 1 [(.int .u8 0)] (.tmp 13) (.tmp 13)⟩,
    ⟨(some 5), none, .act, .mv (.tmp 14)⟩])
  (.seq (.seq (.region [
    ⟨(some 15), none, .act, .mv (.tmp 1)⟩,
    ⟨(some 16), none, .act, .mv (.const (.int .i64 0))⟩])
  (.block 0
   (.loop r55l0)))
  (.seq (.region [
    ⟨(some 31), none, .act, .mv (.tmp 5)⟩,
    ⟨(some 4), none, .act, .mv (.tmp 31)⟩])
  .ret)))))
theorem res55 : ∃ c, Try.f55.body = some c ∧ resCode Try.prog 32 c = some r55 := ⟨_, rfl, by kernel_rfl⟩
theorem rr55 : resRes Try.prog Try.f55.results.toList = some [.tmp 4] := by kernel_rfl
def stepB (u : Int) (C : List AV) (i : Nat) : List AV := over C (7 - i) [.v (.int .u8 (IntKind.u8.wrap (u.fdiv (2 ^ (8 * i)))))]
theorem stepB_len (u : Int) {C : List AV} (hC : C.length = 8) {i : Nat} (hi : i < 8) : (stepB u C i).length = 8 := by
  unfold stepB over
  simp
  omega
theorem put_round (u : Int) (b : Nat) (h : AHeap) (k : List RT) (Q : AV → AHeap → Prop) (i : Nat) (hi : i < 8) (C : List AV) (hC : C.length = 8)
    (H : RRun Try.prog Try.f55 32 (.inLoop r55l0 :: .inBlock 0 :: k) (Env.get [(0, .v (.int .u64 u)), (1, i64 8), (5, slAt b 0 8 8), (15, i64 8), (16, i64 (i + 1 : Nat))]) (h.set b (.box (stepB u C i))) Q) :
    RRun Try.prog Try.f55 32 (.inLoop r55l0 :: .inBlock 0 :: k) (Env.get [(0, .v (.int .u64 u)), (1, i64 8), (5, slAt b 0 8 8), (15, i64 8), (16, i64 i)]) (h.set b (.box C)) Q := by
  have hw : IntKind.i64.wrap (8 * (i : Int)) = 8 * i := wrap_i64 (by omega) (by omega)
  have e1 : min (IntKind.i64.wrap (8 * (i : Int))).toNat IntKind.u64.bits = 8 * i := by
    rw [hw, show IntKind.u64.bits = 64 from rfl]; omega
  have e2 : 0 + ((8 : Int) - 1 - i).toNat * 1 = 7 - i := by omega
  refine RRun.inLoop ?_
  repeat' (first | ((refine S.op0 rfl ?_; refine S.storeS rfl rfl rfl (by rfl) rfl (by omega) ?_)) | refine S.nilK ?_ | (refine S.op rfl ?_; first | refine R.indexAddrV rfl rfl (by omega) (by omega) ?_ | refine S.addI rfl rfl (by omega) ?_ | refine S.subI rfl rfl (by omega) ?_ | refine S.arith rfl rfl rfl ?_ | refine R.shr rfl rfl (by omega) ?_ | refine R.mv rfl ?_ | refine R.convInt rfl ?_ | ((first | refine S.lss rfl rfl ?_ ?_) <;> intro hlt <;> try (exfalso; omega))) | refine S.seq ?_ | refine S.region ?_ | refine S.condT rfl ?_ | refine RRun.skip ?_ | refine RRun.block ?_ | refine RRun.inBlock ?_)
  rw [e1, e2, show ((i : Int) + 1) = ((i + 1 : Nat) : Int) by omega]
  exact S.keep [0, 1, 5, 15, 16] rfl H
theorem numPut_spec (u : Int) (h : AHeap) : ACalls Try.prog 55 [.v (.int .u64 u), i64 8] h (fun x h' => x = byC (putB u) .ro ∧ h' = h) := by
  obtain ⟨c', hc1, hc2⟩ := res55
  refine ACalls.weak (ACalls.enter Try.func55 hc1 Try.ntmps55 hc2 (Nat.le_of_ble_eq_true rfl) rfl ?_)
  repeat' (first | refine S.nilK ?_ | (refine S.op rfl ?_; first | refine R.makeSlO (n := 8) rfl rfl rfl (by decide) (by decide) (fun b hb => ?_) | refine R.mv rfl ?_ | refine R.pickF rfl rfl ?_ | ((first | refine S.lss rfl rfl ?_ ?_ | refine S.gtr rfl rfl ?_ ?_) <;> intro hlt <;> try (exfalso; omega))) | refine S.seq ?_ | refine S.region ?_ | refine S.condF rfl ?_ | refine RRun.skip ?_ | refine RRun.block ?_)
  have l0 : (zeros [Value.int .u8 0] 8).length = 8 := rfl
  have l1 := stepB_len u l0 (i := 0) (by decide)
  have l2 := stepB_len u l1 (i := 1) (by decide)
  have l3 := stepB_len u l2 (i := 2) (by decide)
  have l4 := stepB_len u l3 (i := 3) (by decide)
  have l5 := stepB_len u l4 (i := 4) (by decide)
  have l6 := stepB_len u l5 (i := 5) (by decide)
  have l7 := stepB_len u l6 (i := 6) (by decide)
  refine RRun.loopIn (S.keep [0, 1, 5, 15, 16] rfl (put_round u b h _ _ 0 (by decide) _ l0 (put_round u b h _ _ 1 (by decide) _ l1 (put_round u b h _ _ 2 (by decide) _ l2 (put_round u b h _ _ 3 (by decide) _ l3
    (put_round u b h _ _ 4 (by decide) _ l4 (put_round u b h _ _ 5 (by decide) _ l5 (put_round u b h _ _ 6 (by decide) _ l6 (put_round u b h _ _ 7 (by decide) _ l7 ?_)))))))))
  have hrow : stepB u (stepB u (stepB u (stepB u (stepB u (stepB u (stepB u (stepB u (zeros [Value.int .u8 0] 8) 0) 1) 2) 3) 4) 5) 6) 7 = (Go.Av.byteCells (putB u)).flatten ++ [] := by
    show [AV.v (.int .u8 (IntKind.u8.wrap (u.fdiv (2 ^ (8 * 7))))), .v (.int .u8 (IntKind.u8.wrap (u.fdiv (2 ^ (8 * 6))))), .v (.int .u8 (IntKind.u8.wrap (u.fdiv (2 ^ (8 * 5))))), .v (.int .u8 (IntKind.u8.wrap (u.fdiv (2 ^ (8 * 4))))), .v (.int .u8 (IntKind.u8.wrap (u.fdiv (2 ^ (8 * 3))))), .v (.int .u8 (IntKind.u8.wrap (u.fdiv (2 ^ (8 * 2))))), .v (.int .u8 (IntKind.u8.wrap (u.fdiv (2 ^ (8 * 1))))), .v (.int .u8 (IntKind.u8.wrap (u.fdiv (2 ^ (8 * 0)))))] = _
    simp only [byteN_val]
    rfl
  rw [hrow]
  refine RRun.inLoop ?_
  repeat' (first | refine S.nilK ?_ | (refine S.op rfl ?_; first | refine R.mv rfl ?_ | ((first | refine S.lss rfl rfl ?_ ?_) <;> intro hlt <;> try (exfalso; omega))) | refine S.seq ?_ | refine S.region ?_ | refine S.condF rfl ?_ | refine RRun.exit rfl ?_)
  refine RRun.freezeS (t := 4) (sz := 1) (es := Go.Av.byteCells (putB u)) (len := 8) rfl rfl (AHeap.set_same _ _ _) (byteCells_sz _) (Nat.le_refl 8) (by decide) ?_
  rw [show (h.set b (.box ((Go.Av.byteCells (putB u)).flatten ++ []))).del b = h from by funext x; by_cases hx : x = b; (subst hx; simp [hb]); (rw [AHeap.del_other _ hx, AHeap.set_other _ _ hx])]
  apply S.ret rr55
  case hx => repeat (first | exact ResAt.nil | apply ResAt.tmp rfl)
  exact ⟨_, h, .refl _, (by repeat (first | exact AHeap.le.refl _)), rfl, rfl⟩
end Go.Proofs.Ythadifboeggnpaa

namespace Go.Proofs.Ythadifboeggnpaa
open Go.Av
theorem one_bytes (l : List UInt8) : ∀ e ∈ Go.Av.byteCells l, ∀ a ∈ e, a.one = true := by
  intro e he a ha
  simp only [Go.Av.byteCells, List.mem_map] at he
  obtain ⟨b, _, rfl⟩ := he
  simp [Go.Av.byteCell] at ha
  subst ha
  rfl
theorem bc_len (l : List UInt8) : (Go.Av.byteCells l).length = l.length := by simp [Go.Av.byteCells]
theorem bc_app (a b : List UInt8) : Go.Av.byteCells a ++ Go.Av.byteCells b = Go.Av.byteCells (a ++ b) := by simp [Go.Av.byteCells]
theorem esc_snoc (s : List UInt8) (b : UInt8) : esc (s ++ [b]) = esc s ++ (if b = 0 then [0, 255] else [b]) := by simp [esc]
def md41 : Nat → Bool := fun id => [8].contains id
def r41l1 : RCode :=
  (.seq (.region [
    ⟨(some 39), none, .act, .bin .lss (.tmp 38) (.tmp 37)⟩])
  (.seq (.cond (.tmp 39)
   .skip
   (.exit 3))
  (.seq (.block 4
   (.seq (.region [
     ⟨(some 40), none, .act, .indexAddr 1 (.tmp 36) (.tmp 38)⟩,
     ⟨(some 41), none, .act, .load false 1 (.tmp 40)⟩,
     ⟨(some 7), none, .act, .mv (.tmp 41)⟩])
   (.seq (.region [
     ⟨(some 42), none, .act, .mv (.tmp 3)⟩,
     ⟨(some 43), none, .act, .mv (.tmp 7)⟩,
     ⟨(some 44), none, .act, .buildSl 1 [(.int .u8 0)] 1 [(0, (.tmp 43))]⟩,
     ⟨(some 45), none, .act, .append 1 1 [(.int .u8 0)] (.tmp 42) (.tmp 44)⟩,
     ⟨(some 3), none, .act, .mv (.tmp 45)⟩])
   (.seq (.region [
     ⟨(some 46), none, .act, .mv (.tmp 7)⟩,
     ⟨(some 47), none, .act, .eq false .int (.tmp 46) (.const (.int .u8 0))⟩])
   (.cond (.tmp 47)
    (.region [
      ⟨(some 48), none, .act, .mv (.tmp 3)⟩,
      ⟨(some 49), none, .act, .buildSl 1 [(.int .u8 0)] 1 [(0, (.const (.int .u8 255)))]⟩,
      ⟨(some 50), none, .act, .append 1 1 [(.int .u8 0)] (.tmp 48) (.tmp 49)⟩,
      ⟨(some 3), none, .act, .mv (.tmp 50)⟩])
    .skip)))))
  (.region [
    ⟨(some 51), none, .act, .bin .add (.tmp 38) (.const (.int .i64 1))⟩,
    ⟨(some 38), none, .act, .mv (.tmp 51)⟩]))))
def r41l0 : RCode :=
  (.seq (.region [
    ⟨(some 11), none, .act, .bin .lss (.tmp 10) (.tmp 9)⟩])
  (.seq (.cond (.tmp 11)
   .skip
   (.exit 0))
  (.seq (.block 1
   (.seq (.region [
     ⟨(some 12), none, .act, .indexAddr 3 (.tmp 8) (.tmp 10)⟩,
     ⟨(some 13), none, .act, .load true 3 (.tmp 12)⟩,
     ⟨(some 5), none, .act, .alloc [(.int .i64 0), (.int .i64 0), (.string ⟨#[]⟩)]⟩,
     ⟨none, none, .act, .store 3 (.tmp 5) (.tmp 13)⟩])
   (.seq (.region [
     ⟨(some 14), none, .act, .fieldAddr 0 (.tmp 5)⟩,
     ⟨(some 15), none, .act, .load false 1 (.tmp 14)⟩])
   (.block 2
    (.seq (.region [
      ⟨(some 20), none, .act, .eq false .int (.tmp 15) (.const (.int .i64 1))⟩,
      ⟨(some 19), none, .act, .mv (.tmp 20)⟩])
    (.cond (.tmp 19)
     (.regionT (.step ⟨(some 21), none, .pure, .mv (.tmp 3)⟩ (.step ⟨(some 22), none, .pure, .buildSl 1 [(.int .u8 0)] 1 [(0, (.const (.int .u8 2)))]⟩ (.step ⟨(some 24), none, .pure, .fieldAddr 1 (.tmp 5)⟩ (.alt ⟨(some 23), none, .act, .append 1 1 [(.int .u8 0)] (.tmp 21) (.tmp 22)⟩ (.step ⟨(some 25), none, .read, .load false 1 (.tmp 24)⟩ (.alt ⟨(some 26), none, .act, .call 56 [(.tmp 25)]⟩ (.alt ⟨(some 27), none, .act, .call 55 [(.tmp 26), (.const (.int .i64 8))]⟩ (.alt ⟨(some 28), none, .act, .append 1 1 [(.int .u8 0)] (.tmp 23) (.tmp 27)⟩ (.step ⟨(some 3), none, .pure, .mv (.tmp 28)⟩ .done)
    .stop)
    .stop)
    .stop))
    (.alt ⟨(some 25), none, .read, .load false 1 (.tmp 24)⟩ (.alt ⟨(some 23), none, .act, .append 1 1 [(.int .u8 0)] (.tmp 21) (.tmp 22)⟩ (.alt ⟨(some 26), none, .act, .call 56 [(.tmp 25)]⟩ (.alt ⟨(some 27), none, .act, .call 55 [(.tmp 26), (.const (.int .i64 8))]⟩ (.alt ⟨(some 28), none, .act, .append 1 1 [(.int .u8 0)] (.tmp 23) (.tmp 27)⟩ (.step ⟨(some 3), none, .pure, .mv (.tmp 28)⟩ .done)
    .stop)
    .stop)
    .stop)
    .stop)
    .stop))))))
     (.seq (.region [
       ⟨(some 30), none, .act, .eq false .int (.tmp 15) (.const (.int .i64 2))⟩,
       ⟨(some 29), none, .act, .mv (.tmp 30)⟩])
     (.cond (.tmp 29)
      (.seq (.region [
        ⟨(some 31), none, .act, .mv (.tmp 3)⟩,
        ⟨(some 32), none, .act, .buildSl 1 [(.int .u8 0)] 1 [(0, (.const (.int .u8 3)))]⟩,
        ⟨(some 33), none, .act, .append 1 1 [(.int .u8 0)] (.tmp 31) (.tmp 32)⟩,
        ⟨(some 3), none, .act, .mv (.tmp 33)⟩])
      (.seq (.seq (.region [
        ⟨(some 34), none, .act, .fieldAddr 2 (.tmp 5)⟩,
        ⟨(some 35), none, .act, .load false 1 (.tmp 34)⟩,
        ⟨(some 36), none, .act, .toBytes (.tmp 35)⟩,
        ⟨(some 37), none, .act, .len (.tmp 36)⟩,
        ⟨(some 38), none, .act, .mv (.const (.int .i64 0))⟩])
      (.block 3
       (.loop r41l1)))
      (.region [
        ⟨(some 52), none, .act, .mv (.tmp 3)⟩,
        ⟨(some 53), none, .act, .buildSl 1 [(.int .u8 0)] 2 [(0, (.const (.int .u8 0))), (1, (.const (.int .u8 1)))]⟩,
        ⟨(some 54), none, .act, .append 1 1 [(.int .u8 0)] (.tmp 52) (.tmp 53)⟩,
        ⟨(some 3), none, .act, .mv (.tmp 54)⟩])))
      (.region [
        ⟨(some 16), none, .act, .mv (.tmp 3)⟩,
        ⟨(some 17), none, .act, .buildSl 1 [(.int .u8 0)] 1 [(0, (.const (.int .u8 1)))]⟩,
        ⟨(some 18), none, .act, .append 1 1 [(.int .u8 0)] (.tmp 16) (.tmp 17)⟩,
        ⟨(some 3), none, .act, .mv (.tmp 18)⟩])))))))))
  (.region [
    ⟨(some 55), none, .act, .bin .add (.tmp 10) (.const (.int .i64 1))⟩,
    ⟨(some 10), none, .act, .mv (.tmp 55)⟩]))))
def r41 : RCode :=
  (.seq (.region [
    ⟨(some 2), none, .act, .mv (.const (.slice none 0 0))⟩])
  (.seq (.region [
    ⟨(some 3), none, .act, .mv (.const (.slice none 0 0))⟩])
  (.seq (.seq (.region [
    ⟨(some 8), none, .act, .mv (.tmp 0)⟩,
    ⟨(some 9), none, .act, .len (.tmp 8)⟩,
    ⟨(some 10), none, .act, .mv (.const (.int .i64 0))⟩])
  (.block 0
   (.loop r41l0)))
  (.seq (.region [
    ⟨(some 56), none, .act, .mv (.tmp 3)⟩,
    ⟨(some 2), none, .act, .mv (.tmp 56)⟩])
  .ret))))
theorem res41 : ∃ c, Try.f41.body = some c ∧ resCodeM Try.prog 57 md41 c = some r41 := ⟨_, rfl, by kernel_rfl⟩
theorem rr41 : resRes Try.prog Try.f41.results.toList = some [.tmp 2] := by kernel_rfl
theorem put_inner (s : List UInt8) (hs : s.length ≤ 1000000) (acc : List UInt8) (hacc : acc.length ≤ 100000000) (x8 x9 x10 : AV) (h₀ : AHeap) (k : List RT) (Q : AV → AHeap → Prop)
    (hk : ∀ c h, Grow h₀ h c → RRun Try.prog Try.f41 57 k (Env.get [(3, byC (acc ++ esc s) c), (8, x8), (9, x9), (10, x10)]) h Q) : ∀ (m j : Nat) (c : Cap) (h : AHeap), j + m = s.length → Grow h₀ h c →
    RRun Try.prog Try.f41 57 (.inLoop r41l1 :: .inBlock 3 :: k) (Env.get [(3, byC (acc ++ esc (s.take j)) c), (8, x8), (9, x9), (10, x10), (36, byC s .ro), (37, i64 s.length), (38, i64 j)]) h Q := by
  intro m
  induction m with
  | zero =>
    intro j c h hj hg
    rw [List.take_of_length_le (by omega)]
    refine RRun.inLoop ?_
    repeat' (first | refine S.nilK ?_ | (refine S.op rfl ?_; first | ((first | refine S.lss rfl rfl ?_ ?_) <;> intro hlt <;> try (exfalso; omega))) | refine S.seq ?_ | refine S.region ?_ | refine S.condF rfl ?_ | refine RRun.exit rfl ?_)
    exact S.keep [3, 8, 9, 10] rfl (hk c h hg)
  | succ m ih =>
    intro j c h hj hg
    have hjs : j < s.length := by omega
    have h1 : (Go.Av.byteCells s)[((j : Nat) : Int).toNat]? = some [Go.Av.u8 s[j]] := by simp [Go.Av.byteCells, hjs]; rfl
    have hs1 : s.take (j + 1) = s.take j ++ [s[j]] := by rw [List.take_add_one, List.getElem?_eq_getElem hjs]; rfl
    have hesc := esc_len (s.take j)
    have htl : (s.take j).length ≤ s.length := by simp; omega
    have hlen0 := bc_len (acc ++ esc (s.take j))
    rw [List.length_append] at hlen0
    have hb256 := UInt8.toNat_lt s[j]
    generalize s[j] = b at h1 hs1 hb256
    have ih2 := ih (j + 1)
    rw [hs1] at ih2
    refine RRun.inLoop ?_
    by_cases hb : b = 0
    · subst hb
      repeat' (first | refine S.nilK ?_ | (refine S.op rfl ?_; first | refine R.indexAddr rfl rfl (by omega) h1 ?_ | refine R.mv rfl ?_ | refine R.loadR rfl rfl ?_ | refine R.buildSl rfl rfl rfl (by decide) ?_ | ((first | refine S.lss rfl rfl ?_ ?_) <;> intro hlt <;> try (exfalso; omega))) | refine S.seq ?_ | refine S.region ?_ | refine S.condT rfl ?_ | refine RRun.skip ?_ | refine RRun.block ?_)
      refine S.op rfl (S.appendG (ys := Go.Av.byteCells [0]) rfl hg rfl (.sl _ _) rfl (.sl _ _) (one_bytes _) (by rw [hlen0]; simp [Go.Av.byteCells]; omega) (by rw [hlen0]; simp [Go.Av.byteCells]; omega) (fun c1 h2 hg1 _ => ?_))
      repeat' (first | refine S.nilK ?_ | (refine S.op rfl ?_; first | refine S.eqIntSame (a := 0) rfl rfl ?_ | refine R.mv rfl ?_ | refine R.buildSl rfl rfl rfl (by decide) ?_) | refine S.seq ?_ | refine S.region ?_ | refine S.condT rfl ?_)
      refine S.op rfl (S.appendG (ys := Go.Av.byteCells [255]) rfl hg1 rfl (.sl _ _) rfl (.sl _ _) (one_bytes _) (by rw [List.length_append, hlen0]; simp [Go.Av.byteCells]; omega) (by rw [List.length_append, hlen0]; simp [Go.Av.byteCells]; omega) (fun c2 h3 hg2 _ => ?_))
      repeat' (first | refine S.nilK ?_ | (refine S.op rfl ?_; first | refine R.mv rfl ?_ | refine S.addI rfl rfl (by omega) ?_) | refine S.region ?_ | refine RRun.inBlock ?_)
      rw [show Go.Av.byteCells (acc ++ esc (s.take j)) ++ Go.Av.byteCells [0] ++ Go.Av.byteCells [255] = Go.Av.byteCells (acc ++ esc (s.take j ++ [0])) by rw [esc_snoc, bc_app, bc_app]; simp, show ((j : Int) + 1) = ((j + 1 : Nat) : Int) by omega]
      exact S.keep [3, 8, 9, 10, 36, 37, 38] rfl (ih2 _ _ (by omega) hg2)
    · have hb' : b.toNat ≠ 0 := fun e => hb (UInt8.toNat_inj.1 e)
      repeat' (first | refine S.nilK ?_ | (refine S.op rfl ?_; first | refine R.indexAddr rfl rfl (by omega) h1 ?_ | refine R.mv rfl ?_ | refine R.loadR rfl rfl ?_ | refine R.buildSl rfl rfl rfl (by decide) ?_ | ((first | refine S.lss rfl rfl ?_ ?_) <;> intro hlt <;> try (exfalso; omega))) | refine S.seq ?_ | refine S.region ?_ | refine S.condT rfl ?_ | refine RRun.skip ?_ | refine RRun.block ?_)
      refine S.op rfl (S.appendG (ys := Go.Av.byteCells [b]) rfl hg rfl (.sl _ _) rfl (.sl _ _) (one_bytes _) (by rw [hlen0]; simp [Go.Av.byteCells]; omega) (by rw [hlen0]; simp [Go.Av.byteCells]; omega) (fun c1 h2 hg1 _ => ?_))
      repeat' (first | refine S.nilK ?_ | (refine S.op rfl ?_; first | refine R.mv rfl ?_ | refine S.addI rfl rfl (by omega) ?_ | ((first | refine S.eqInt rfl rfl ?_ ?_) <;> intro hlt <;> try (exfalso; omega))) | refine S.seq ?_ | refine S.region ?_ | refine S.condF rfl ?_ | refine RRun.skip ?_ | refine RRun.inBlock ?_)
      rw [show Go.Av.byteCells (acc ++ esc (s.take j)) ++ Go.Av.byteCells [b] = Go.Av.byteCells (acc ++ esc (s.take j ++ [b])) by rw [esc_snoc, bc_app, if_neg hb]; simp, show ((j : Int) + 1) = ((j + 1 : Nat) : Int) by omega]
      exact S.keep [3, 8, 9, 10, 36, 37, 38] rfl (ih2 _ _ (by omega) hg1)
def putL (l : Row) : List UInt8 := l.flatMap putV
theorem putL_len : ∀ (l : Row), (∀ v ∈ l, v.s.length ≤ 100000) → (putL l).length ≤ 200009 * l.length
  | [], _ => by simp [putL]
  | v :: l, h => by
    have := putL_len l fun x hx => h x (List.mem_cons_of_mem _ hx)
    have h2 := putV_len v
    have h3 := h v (List.mem_cons_self ..)
    unfold putL at this ⊢
    rw [List.flatMap_cons, List.length_append, List.length_cons]
    omega
theorem put_outer (l : Row) (hl : l.length ≤ 100) (hs : ∀ v ∈ l, v.s.length ≤ 100000) (h₀ : AHeap) (k : List RT) (Q : AV → AHeap → Prop)
    (hk : ∀ c h, Grow h₀ h c → RRun Try.prog Try.f41 57 k (Env.get [(3, byC (putL l) c)]) h Q) : ∀ (m i : Nat) (c : Cap) (h : AHeap), i + m = l.length → Grow h₀ h c →
    RRun Try.prog Try.f41 57 (.inLoop r41l0 :: .inBlock 0 :: k) (Env.get [(3, byC (putL (l.take i)) c), (8, rowA l), (9, i64 l.length), (10, i64 i)]) h Q := by
  intro m
  induction m with
  | zero =>
    intro i c h hi hg
    rw [List.take_of_length_le (by omega)]
    refine RRun.inLoop ?_
    repeat' (first | refine S.nilK ?_ | (refine S.op rfl ?_; first | ((first | refine S.lss rfl rfl ?_ ?_) <;> intro hlt <;> try (exfalso; omega))) | refine S.seq ?_ | refine S.region ?_ | refine S.condF rfl ?_ | refine RRun.exit rfl ?_)
    exact S.keep [3] rfl (hk c h hg)
  | succ m ih =>
    intro i c h hi hg
    have hie : i < l.length := by omega
    have h1 : (l.map Val.cells)[((i : Nat) : Int).toNat]? = some [i64 l[i].kind, i64 l[i].n, str l[i].s] := by simp [hie]; rfl
    have hsi := hs _ (List.getElem_mem hie)
    have hs1 : putL (l.take (i + 1)) = putL (l.take i) ++ putV l[i] := by unfold putL; rw [List.take_add_one, List.getElem?_eq_getElem hie, List.flatMap_append]; simp
    have hpl : (putL (l.take i)).length ≤ 20000900 := by
      have := putL_len (l.take i) (fun v hv => hs v (List.mem_of_mem_take hv))
      have h3 : (l.take i).length ≤ 100 := by simp; omega
      omega
    have hlen0 := bc_len (putL (l.take i))
    have ih2 := ih (i + 1)
    rw [hs1] at ih2
    generalize l[i] = v at h1 hsi ih2
    obtain ⟨vk, vn, vs⟩ := v
    simp only at h1 hsi
    have c56 := fun h => flip_spec vn h
    have c55 := fun h => numPut_spec (flipN vn) h
    generalize hacc : putL (l.take i) = acc at *
    refine RRun.inLoop ?_
    by_cases hk1 : vk = 1
    · rw [show putV ⟨vk, vn, vs⟩ = 2 :: putB (flipN vn) from if_pos hk1] at ih2
      have e : Go.Av.byteCells acc ++ Go.Av.byteCells [2] ++ Go.Av.byteCells (putB (flipN vn)) = Go.Av.byteCells (acc ++ 2 :: putB (flipN vn)) := by rw [bc_app, bc_app]; simp
      have hfin : ∀ c1 h1, Grow h₀ h1 c1 → RRun Try.prog Try.f41 57 (.inLoop r41l0 :: .inBlock 0 :: k) (Env.get [(3, .sl 1 (Go.Av.byteCells acc ++ Go.Av.byteCells [2] ++ Go.Av.byteCells (putB (flipN vn))) c1), (8, rowA l), (9, i64 l.length), (10, i64 ((i : Int) + 1))]) h1 Q := fun c1 h1 hg1 => by
        rw [e, show ((i : Int) + 1) = ((i + 1 : Nat) : Int) by omega]
        exact ih2 _ _ (by omega) hg1
      have hpb : (Go.Av.byteCells (putB (flipN vn))).length = 8 := rfl
      repeat' (first | ((show RRunG _ _ _ (.inLoop r41l0 :: _) _ _ _; exact S.keep [3, 8, 9, 10] rfl (hfin _ _ ‹_›))) | refine S.nilK ?_ | (refine S.op rfl ?_; first | refine R.indexAddr rfl rfl (by omega) h1 ?_ | refine S.appendG (ys := Go.Av.byteCells [2]) rfl (hg.base _ (by assumption)) rfl (.sl _ _) rfl (.sl _ _) (one_bytes _) (by rw [hlen0]; simp [Go.Av.byteCells]; omega) (by rw [hlen0]; simp [Go.Av.byteCells]; omega) (fun c1 h2 hg1 hb1 => ?_) | refine S.appendG (ys := Go.Av.byteCells (putB (flipN vn))) rfl hg1 rfl (.sl _ _) rfl (.sl _ _) (one_bytes _) (by rw [List.length_append, hlen0, hpb]; simp [Go.Av.byteCells]; omega) (by rw [List.length_append, hlen0, hpb]; simp [Go.Av.byteCells]; omega) (fun c2 h3 hg2 hb2 => ?_) | refine R.load (by decide) rfl (hb1 _ _ (AHeap.set_same _ _ _)) rfl ?_ | refine callS rfl rfl (c56 _) ?_ | refine callS rfl rfl (c55 _) ?_ | refine R.mv rfl ?_ | refine R.fieldAddr rfl ?_ | refine R.loadR rfl rfl ?_ | refine R.load (by decide) rfl (by (repeat' (first | exact AHeap.set_same _ _ _)); first | done | fail) rfl ?_ | refine S.addI rfl rfl (by omega) ?_ | refine R.alloc rfl (fun b hb => ?_) | refine R.buildSl rfl rfl rfl (by decide) ?_ | ((first | refine S.lss rfl rfl ?_ ?_ | refine S.eqInt rfl rfl ?_ ?_) <;> intro hlt <;> try (exfalso; omega))) | (refine S.op0 rfl ?_; first | refine S.storeS rfl rfl rfl (by rfl) rfl (by first | decide | exact Nat.le_refl _ | exact Nat.le_of_ble_eq_true rfl) ?_) | refine S.seq ?_ | refine S.region ?_ | refine S.regionT ?_ | refine S.talt ?_ ?_ | exact S.tstop | refine S.tdone ?_ | refine S.condT rfl ?_ | refine RRun.skip ?_ | refine RRun.block ?_ | refine RRun.inBlock ?_)
    · by_cases hk2 : vk = 2
      · rw [show putV ⟨vk, vn, vs⟩ = 3 :: (esc vs ++ [0, 1]) from (if_neg hk1).trans (if_pos hk2)] at ih2
        have hesc := esc_len vs
        have hlb := bc_len vs
        repeat' (first | refine S.nilK ?_ | (refine S.op rfl ?_; first | refine R.indexAddr rfl rfl (by omega) h1 ?_ | refine R.mv rfl ?_ | refine R.fieldAddr rfl ?_ | refine R.loadR rfl rfl ?_ | refine R.load (by decide) rfl (by (repeat' (first | exact AHeap.set_same _ _ _)); first | done | fail) rfl ?_ | refine R.alloc rfl (fun b hb => ?_) | refine R.buildSl rfl rfl rfl (by decide) ?_ | ((first | refine S.lss rfl rfl ?_ ?_ | refine S.eqInt rfl rfl ?_ ?_) <;> intro hlt <;> try (exfalso; omega))) | (refine S.op0 rfl ?_; first | refine S.storeS rfl rfl rfl (by rfl) rfl (by first | decide | exact Nat.le_refl _ | exact Nat.le_of_ble_eq_true rfl) ?_) | refine S.seq ?_ | refine S.region ?_ | refine S.condT rfl ?_ | refine S.condF rfl ?_ | refine RRun.skip ?_ | refine RRun.block ?_)
        refine S.op rfl (S.appendG (ys := Go.Av.byteCells [3]) rfl (hg.base _ (by assumption)) rfl (.sl _ _) rfl (.sl _ _) (one_bytes _) (by rw [hlen0]; simp [Go.Av.byteCells]; omega) (by rw [hlen0]; simp [Go.Av.byteCells]; omega) (fun c1 h2 hg1 hb1 => ?_))
        repeat' (first | refine S.nilK ?_ | (refine S.op rfl ?_; first | refine R.load (by decide) rfl (hb1 _ _ (AHeap.set_same _ _ _)) rfl ?_ | refine S.toBytesS rfl (by simp only [maxLen]; omega) ?_ | refine R.mv rfl ?_ | refine R.fieldAddr rfl ?_ | refine R.len rfl ?_) | refine S.seq ?_ | refine S.region ?_ | refine RRun.block ?_)
        rw [hlb, bc_app, show acc ++ [3] = acc ++ [3] ++ esc (vs.take 0) by simp [esc]]
        refine RRun.loopIn (S.keep [3, 8, 9, 10, 36, 37, 38] rfl (put_inner vs (by omega) (acc ++ [3]) (by simp; omega) _ _ _ h₀ _ _ (fun c2 h3 hg2 => ?_) vs.length 0 c1 h2 (by omega) hg1))
        repeat' (first | (refine S.op rfl ?_; first | refine R.mv rfl ?_ | refine R.buildSl rfl rfl rfl (by decide) ?_) | refine S.region ?_)
        refine S.op rfl (S.appendG (ys := Go.Av.byteCells [0, 1]) rfl hg2 rfl (.sl _ _) rfl (.sl _ _) (one_bytes _) (by rw [bc_len]; simp [Go.Av.byteCells]; omega) (by rw [bc_len]; simp [Go.Av.byteCells]; omega) (fun c3 h4 hg3 _ => ?_))
        repeat' (first | refine S.nilK ?_ | (refine S.op rfl ?_; first | refine R.mv rfl ?_ | refine S.addI rfl rfl (by omega) ?_) | refine S.region ?_ | refine RRun.inBlock ?_)
        rw [bc_app, show acc ++ [3] ++ esc vs ++ [0, 1] = acc ++ 3 :: (esc vs ++ [0, 1]) by simp, show ((i : Int) + 1) = ((i + 1 : Nat) : Int) by omega]
        exact S.keep [3, 8, 9, 10] rfl (ih2 _ _ (by omega) hg3)
      · rw [show putV ⟨vk, vn, vs⟩ = [1] from (if_neg hk1).trans (if_neg hk2)] at ih2
        repeat' (first | refine S.nilK ?_ | (refine S.op rfl ?_; first | refine R.indexAddr rfl rfl (by omega) h1 ?_ | refine R.mv rfl ?_ | refine R.fieldAddr rfl ?_ | refine R.loadR rfl rfl ?_ | refine R.load (by decide) rfl (by (repeat' (first | exact AHeap.set_same _ _ _)); first | done | fail) rfl ?_ | refine R.alloc rfl (fun b hb => ?_) | refine R.buildSl rfl rfl rfl (by decide) ?_ | ((first | refine S.lss rfl rfl ?_ ?_ | refine S.eqInt rfl rfl ?_ ?_) <;> intro hlt <;> try (exfalso; omega))) | (refine S.op0 rfl ?_; first | refine S.storeS rfl rfl rfl (by rfl) rfl (by first | decide | exact Nat.le_refl _ | exact Nat.le_of_ble_eq_true rfl) ?_) | refine S.seq ?_ | refine S.region ?_ | refine S.condT rfl ?_ | refine S.condF rfl ?_ | refine RRun.skip ?_ | refine RRun.block ?_)
        refine S.op rfl (S.appendG (ys := Go.Av.byteCells [1]) rfl (hg.base _ (by assumption)) rfl (.sl _ _) rfl (.sl _ _) (one_bytes _) (by rw [hlen0]; simp [Go.Av.byteCells]; omega) (by rw [hlen0]; simp [Go.Av.byteCells]; omega) (fun c1 h2 hg1 _ => ?_))
        repeat' (first | refine S.nilK ?_ | (refine S.op rfl ?_; first | refine R.mv rfl ?_ | refine S.addI rfl rfl (by omega) ?_) | refine S.region ?_ | refine RRun.inBlock ?_)
        rw [bc_app, show ((i : Int) + 1) = ((i + 1 : Nat) : Int) by omega]
        exact S.keep [3, 8, 9, 10] rfl (ih2 _ _ (by omega) hg1)
theorem put_spec (l : Row) (hl : l.length ≤ 100) (hs : ∀ v ∈ l, v.s.length ≤ 100000) (h : AHeap) : ACalls Try.prog 41 [rowA l] h (fun x h' => x = byC (putL l) .ro ∧ h' = h) := by
  obtain ⟨c', hc1, hc2⟩ := res41
  refine ACalls.weak (ACalls.enter Try.func41 hc1 Try.ntmps41 hc2 (Nat.le_of_ble_eq_true rfl) rfl ?_)
  have hlen : (l.map Val.cells).length = l.length := by simp
  repeat' (first | refine S.nilK ?_ | (refine S.op rfl ?_; first | refine R.mv rfl ?_ | refine R.len rfl ?_) | refine S.seq ?_ | refine S.region ?_ | refine RRun.block ?_)
  rw [hlen]
  refine RRun.loopIn (S.keep [3, 8, 9, 10] rfl (RRun.envs (.cons 3 (.nilSl 1 (c := .full) trivial) (.cons 8 (.refl _) (.cons 9 (.refl _) (.cons 10 (.refl _) .nil)))) (put_outer l hl hs h _ _ (fun c h1 hg => ?_) l.length 0 .full h (by omega) (Grow.start h))))
  repeat' (first | refine S.nilK ?_ | (refine S.op rfl ?_; first | refine R.mv rfl ?_) | refine S.seq ?_ | refine S.region ?_)
  apply S.ret rr41
  case hx => repeat (first | exact ResAt.nil | apply ResAt.tmp rfl)
  exact ⟨_, h, .toRo _ _ _, hg.le, rfl, rfl⟩
def nameF (l : Row) : List UInt8 := l.flatMap fun v => putL [⟨1, v.kind, []⟩, v]
theorem nameF_len : ∀ (l : Row), (∀ v ∈ l, v.s.length ≤ 100000) → (nameF l).length ≤ 400018 * l.length
  | [], _ => by simp [nameF]
  | v :: l, h => by
    have := nameF_len l fun x hx => h x (List.mem_cons_of_mem _ hx)
    have h2 := putL_len [⟨1, v.kind, []⟩, v] (fun x hx => by
      simp at hx
      rcases hx with rfl | rfl
      · simp
      · exact h _ (List.mem_cons_self ..))
    unfold nameF at this ⊢
    rw [List.flatMap_cons, List.length_append, List.length_cons]
    simp only [List.length_cons, List.length_nil] at h2
    omega
def r33l0 : RCode :=
  (.seq (.region [
    ⟨(some 9), none, .act, .bin .lss (.tmp 8) (.tmp 7)⟩])
  (.seq (.cond (.tmp 9)
   .skip
   (.exit 0))
  (.seq (.block 1
   (.seq (.region [
     ⟨(some 10), none, .act, .indexAddr 3 (.tmp 6) (.tmp 8)⟩,
     ⟨(some 11), none, .act, .load true 3 (.tmp 10)⟩,
     ⟨(some 5), none, .act, .alloc [(.int .i64 0), (.int .i64 0), (.string ⟨#[]⟩)]⟩,
     ⟨none, none, .act, .store 3 (.tmp 5) (.tmp 11)⟩])
   (.region [
     ⟨(some 12), none, .act, .mv (.tmp 3)⟩,
     ⟨(some 13), none, .act, .fieldAddr 0 (.tmp 5)⟩,
     ⟨(some 14), none, .act, .load false 1 (.tmp 13)⟩,
     ⟨(some 15), none, .act, .build [(.int .i64 0), (.int .i64 0), (.string ⟨#[]⟩)] [(0, 1, (.const (.int .i64 1))), (1, 1, (.tmp 14))]⟩,
     ⟨(some 16), none, .act, .load true 3 (.tmp 5)⟩,
     ⟨(some 17), none, .act, .buildSl 3 [(.int .i64 0), (.int .i64 0), (.string ⟨#[]⟩)] 2 [(0, (.tmp 15)), (1, (.tmp 16))]⟩,
     ⟨(some 18), none, .act, .call 41 [(.tmp 17)]⟩,
     ⟨(some 19), none, .act, .append 1 1 [(.int .u8 0)] (.tmp 12) (.tmp 18)⟩,
     ⟨(some 3), none, .act, .mv (.tmp 19)⟩])))
  (.region [
    ⟨(some 20), none, .act, .bin .add (.tmp 8) (.const (.int .i64 1))⟩,
    ⟨(some 8), none, .act, .mv (.tmp 20)⟩]))))
def r33 : RCode :=
  (.seq (.region [
    ⟨(some 2), none, .act, .mv (.const (.string ⟨#[]⟩))⟩])
  (.seq (.region [
    ⟨(some 3), none, .act, .mv (.const (.slice none 0 0))⟩])
  (.seq (.seq (.region [
    ⟨(some 6), none, .act, .mv (.tmp 0)⟩,
    ⟨(some 7), none, .act, .len (.tmp 6)⟩,
    ⟨(some 8), none, .act, .mv (.const (.int .i64 0))⟩])
  (.block 0
   (.loop r33l0)))
  (.seq (.region [
    ⟨(some 21), none, .act, .mv (.tmp 3)⟩,
    ⟨(some 22), none, .act, .toStr (.tmp 21)⟩,
    ⟨(some 2), none, .act, .mv (.tmp 22)⟩])
  .ret))))
theorem res33 : ∃ c, Try.f33.body = some c ∧ resCode Try.prog 23 c = some r33 := ⟨_, rfl, by kernel_rfl⟩
theorem rr33 : resRes Try.prog Try.f33.results.toList = some [.tmp 2] := by kernel_rfl
theorem name_loop (l : Row) (hl : l.length ≤ 10) (hs : ∀ v ∈ l, v.s.length ≤ 100000) (h₀ : AHeap) (k : List RT) (Q : AV → AHeap → Prop)
    (hk : ∀ c h, Grow h₀ h c → RRun Try.prog Try.f33 23 k (Env.get [(3, byC (nameF l) c)]) h Q) : ∀ (m i : Nat) (c : Cap) (h : AHeap), i + m = l.length → Grow h₀ h c →
    RRun Try.prog Try.f33 23 (.inLoop r33l0 :: .inBlock 0 :: k) (Env.get [(3, byC (nameF (l.take i)) c), (6, rowA l), (7, i64 l.length), (8, i64 i)]) h Q := by
  intro m
  induction m with
  | zero =>
    intro i c h hi hg
    rw [List.take_of_length_le (by omega)]
    refine RRun.inLoop ?_
    repeat' (first | refine S.nilK ?_ | (refine S.op rfl ?_; first | ((first | refine S.lss rfl rfl ?_ ?_) <;> intro hlt <;> try (exfalso; omega))) | refine S.seq ?_ | refine S.region ?_ | refine S.condF rfl ?_ | refine RRun.exit rfl ?_)
    exact S.keep [3] rfl (hk c h hg)
  | succ m ih =>
    intro i c h hi hg
    have hie : i < l.length := by omega
    have h1 : (l.map Val.cells)[((i : Nat) : Int).toNat]? = some [i64 l[i].kind, i64 l[i].n, str l[i].s] := by simp [hie]; rfl
    have hsi := hs _ (List.getElem_mem hie)
    have hs1 : nameF (l.take (i + 1)) = nameF (l.take i) ++ putL [⟨1, l[i].kind, []⟩, l[i]] := by unfold nameF; rw [List.take_add_one, List.getElem?_eq_getElem hie, List.flatMap_append]; simp
    have hpl : (nameF (l.take i)).length ≤ 4000180 := by
      have := nameF_len (l.take i) (fun v hv => hs v (List.mem_of_mem_take hv))
      have h3 : (l.take i).length ≤ 10 := by simp; omega
      omega
    have ih2 := ih (i + 1)
    rw [hs1] at ih2
    generalize l[i] = v at h1 hsi ih2
    have hok : ∀ x ∈ [(⟨1, v.kind, []⟩ : Val), v], x.s.length ≤ 100000 := fun x hx => by
      simp at hx
      rcases hx with rfl | rfl
      · simp
      · exact hsi
    have c41 : ∀ h, ACalls Try.prog 41 [.sl 3 [[i64 1, i64 v.kind, str []], [i64 v.kind, i64 v.n, str v.s]] .full] h (fun x h' => x = byC (putL [⟨1, v.kind, []⟩, v]) .ro ∧ h' = h) := fun h =>
      ACalls.args (put_spec [⟨1, v.kind, []⟩, v] (by simp) hok h) (.cons (.toRo _ _ _) .nil)
    have hpl2 := putL_len [⟨1, v.kind, []⟩, v] hok
    simp only [List.length_cons, List.length_nil] at hpl2
    generalize putL [⟨1, v.kind, []⟩, v] = pv at c41 ih2 hpl2
    obtain ⟨vk, vn, vs⟩ := v
    simp only at h1 c41
    refine RRun.inLoop ?_
    repeat' (first | refine S.nilK ?_ | (refine S.op rfl ?_; first | refine R.indexAddr rfl rfl (by omega) h1 ?_ | refine callS rfl rfl (c41 _) ?_ | refine R.mv rfl ?_ | refine R.fieldAddr rfl ?_ | refine R.loadR rfl rfl ?_ | refine R.load (by decide) rfl (by (repeat' (first | exact AHeap.set_same _ _ _)); first | done | fail) rfl ?_ | refine R.alloc rfl (fun b hb => ?_) | refine R.build rfl rfl ?_ | refine R.buildSl rfl rfl rfl (by decide) ?_ | ((first | refine S.lss rfl rfl ?_ ?_) <;> intro hlt <;> try (exfalso; omega))) | (refine S.op0 rfl ?_; first | refine S.storeS rfl rfl rfl (by rfl) rfl (by first | decide | exact Nat.le_refl _ | exact Nat.le_of_ble_eq_true rfl) ?_) | refine S.seq ?_ | refine S.region ?_ | refine S.condT rfl ?_ | refine RRun.skip ?_ | refine RRun.block ?_)
    refine S.op rfl (S.appendG (ys := Go.Av.byteCells pv) rfl (hg.base _ (by assumption)) rfl (.sl _ _) rfl (.sl _ _) (one_bytes _) (by rw [bc_len, bc_len]; omega) (by rw [bc_len, bc_len]; omega) (fun c1 h2 hg1 _ => ?_))
    repeat' (first | refine S.nilK ?_ | (refine S.op rfl ?_; first | refine R.mv rfl ?_ | refine S.addI rfl rfl (by omega) ?_) | refine S.region ?_ | refine RRun.inBlock ?_)
    rw [bc_app, show ((i : Int) + 1) = ((i + 1 : Nat) : Int) by omega]
    exact S.keep [3, 6, 7, 8] rfl (ih2 _ _ (by omega) hg1)
theorem name_spec (l : Row) (hl : l.length ≤ 10) (hs : ∀ v ∈ l, v.s.length ≤ 100000) (h : AHeap) : ACalls Try.prog 33 [rowA l] h (fun x h' => x = str (nameF l) ∧ h' = h) := by
  obtain ⟨c', hc1, hc2⟩ := res33
  refine ACalls.weak (ACalls.enter Try.func33 hc1 Try.ntmps33 hc2 (Nat.le_of_ble_eq_true rfl) rfl ?_)
  have hlen : (l.map Val.cells).length = l.length := by simp
  repeat' (first | refine S.nilK ?_ | (refine S.op rfl ?_; first | refine R.mv rfl ?_ | refine R.len rfl ?_) | refine S.seq ?_ | refine S.region ?_ | refine RRun.block ?_)
  rw [hlen]
  refine RRun.loopIn (S.keep [3, 6, 7, 8] rfl (RRun.envs (.cons 3 (.nilSl 1 (c := .full) trivial) (.cons 6 (.refl _) (.cons 7 (.refl _) (.cons 8 (.refl _) .nil)))) (name_loop l hl hs h _ _ (fun c h1 hg => ?_) l.length 0 .full h (by omega) (Grow.start h))))
  repeat' (first | refine S.nilK ?_ | (refine S.op rfl ?_; first | refine S.toStrS rfl ?_ | refine R.mv rfl ?_) | refine S.seq ?_ | refine S.region ?_)
  apply S.ret rr33
  case hx => repeat (first | exact ResAt.nil | apply ResAt.tmp rfl)
  exact ⟨_, h, .refl _, hg.le, rfl, rfl⟩
end Go.Proofs.Ythadifboeggnpaa
