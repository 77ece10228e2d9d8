/-
  ParseCases answers true for every text: a text without a quote reads the same, small or great its letters. No condition.
-/
import Derived.Test.YtdinnoejipmiiaaP18
import Derived.Test.YtdinnoejipmiiaaP19
import Derived.Test.YtdinnoejipmiiaaRows
import Derived.WalkKit
set_option linter.unusedVariables false
set_option linter.unusedSimpArgs false
namespace Go.Proofs.Ytdinnoejipmiiaa
open Go.Av
def isLetter (c : UInt8) : Bool := decide (c.toNat = 95 ∨ (97 ≤ c.toNat ∧ c.toNat ≤ 122) ∨ (65 ≤ c.toNat ∧ c.toNat ≤ 90))
def isDigit (c : UInt8) : Bool := decide (48 ≤ c.toNat ∧ c.toNat ≤ 57)
def isBlank (c : UInt8) : Bool := decide (c.toNat = 32 ∨ c.toNat = 9 ∨ c.toNat = 10 ∨ c.toNat = 13)
def isUpper (c : UInt8) : Bool := decide (65 ≤ c.toNat ∧ c.toNat ≤ 90)
def small (c : UInt8) : UInt8 := if isUpper c then c + 32 else c
def isWord (c : UInt8) : Bool := isLetter c || isDigit c
theorem small_up {c : UInt8} (h1 : 65 ≤ c.toNat) (h2 : c.toNat ≤ 90) : (small c).toNat = c.toNat + 32 := by
  have : isUpper c = true := by simp [isUpper, h1, h2]
  rw [small, if_pos this, UInt8.toNat_add]
  show (c.toNat + 32) % 256 = _
  omega
theorem small_not {c : UInt8} (h : ¬ (65 ≤ c.toNat ∧ c.toNat ≤ 90)) : small c = c := by
  have : ¬ isUpper c = true := by simpa [isUpper] using h
  rw [small, if_neg this]
theorem wrap_u8 {n : Int} (h0 : 0 ≤ n) (h1 : n < 256) : IntKind.u8.wrap n = n := by
  simp only [IntKind.wrap, IntKind.bits, IntKind.signed]
  simp
  omega
def r56 : RCode :=
  (.seq (.region [
    ⟨(some 2), none, .act, .mv (.const (.bool false))⟩])
  (.seq (.region [
    ⟨(some 3), none, .act, .mv (.tmp 0)⟩,
    ⟨(some 4), none, .act, .eq false .int (.tmp 3) (.const (.int .u8 32))⟩,
    ⟨(some 5), none, .act, .mv (.tmp 4)⟩,
    ⟨(some 6), (some (5, false)), .act, .mv (.tmp 0)⟩,
    ⟨(some 7), (some (5, false)), .act, .eq false .int (.tmp 6) (.const (.int .u8 9))⟩,
    ⟨(some 8), none, .act, .pick (.tmp 5) (.const (.bool true)) (.tmp 7)⟩,
    ⟨(some 9), none, .act, .mv (.tmp 8)⟩,
    ⟨(some 10), (some (9, false)), .act, .mv (.tmp 0)⟩,
    ⟨(some 11), (some (9, false)), .act, .eq false .int (.tmp 10) (.const (.int .u8 10))⟩,
    ⟨(some 12), none, .act, .pick (.tmp 9) (.const (.bool true)) (.tmp 11)⟩,
    ⟨(some 13), none, .act, .mv (.tmp 12)⟩,
    ⟨(some 14), (some (13, false)), .act, .mv (.tmp 0)⟩,
    ⟨(some 15), (some (13, false)), .act, .eq false .int (.tmp 14) (.const (.int .u8 13))⟩,
    ⟨(some 16), none, .act, .pick (.tmp 13) (.const (.bool true)) (.tmp 15)⟩,
    ⟨(some 2), none, .act, .mv (.tmp 16)⟩])
  .ret))
theorem res56 : ∃ c, Try.f56.body = some c ∧ resCode Try.prog 17 c = some r56 := ⟨_, rfl, by kernel_rfl⟩
theorem rr56 : resRes Try.prog Try.f56.results.toList = some [.tmp 2] := by kernel_rfl
theorem blank_spec (c : UInt8) (h : AHeap) : ACalls Try.prog 56 [u8 c] h (fun x h' => x = bl (isBlank c) ∧ h' = h) := by
  obtain ⟨c', hc1, hc2⟩ := res56
  refine ACalls.enter Try.func56 hc1 Try.ntmps56 hc2 (Nat.le_of_ble_eq_true rfl) rfl ?_
  repeat' (first | refine S.nilK ?_ | (refine S.op rfl ?_; first | refine R.mv rfl ?_ | refine R.pickT rfl rfl ?_ | refine R.pickF rfl rfl ?_ | ((first | refine S.eqInt rfl rfl ?_ ?_) <;> intro hlt <;> try (exfalso; omega))) | refine S.skip rfl ?_ | refine S.seq ?_ | refine S.region ?_)
  all_goals
    apply S.ret rr56
    case hx => repeat (first | exact ResAt.nil | apply ResAt.tmp rfl)
    exact ⟨congrArg bl (Eq.symm (by first | exact decide_eq_true (by omega) | exact decide_eq_false (by omega))), rfl⟩
def r64 : RCode :=
  (.seq (.region [
    ⟨(some 2), none, .act, .mv (.const (.bool false))⟩])
  (.seq (.region [
    ⟨(some 3), none, .act, .mv (.tmp 0)⟩,
    ⟨(some 4), none, .act, .eq false .int (.tmp 3) (.const (.int .u8 95))⟩,
    ⟨(some 5), none, .act, .mv (.tmp 4)⟩,
    ⟨(some 6), (some (5, false)), .act, .mv (.tmp 0)⟩,
    ⟨(some 7), (some (5, false)), .act, .bin .geq (.tmp 6) (.const (.int .u8 97))⟩,
    ⟨(some 8), (some (5, false)), .act, .mv (.tmp 7)⟩,
    ⟨(some 9), (some (8, true)), .act, .mv (.tmp 0)⟩,
    ⟨(some 10), (some (8, true)), .act, .bin .leq (.tmp 9) (.const (.int .u8 122))⟩,
    ⟨(some 11), (some (5, false)), .act, .pick (.tmp 8) (.tmp 10) (.const (.bool false))⟩,
    ⟨(some 12), none, .act, .pick (.tmp 5) (.const (.bool true)) (.tmp 11)⟩,
    ⟨(some 13), none, .act, .mv (.tmp 12)⟩,
    ⟨(some 14), (some (13, false)), .act, .mv (.tmp 0)⟩,
    ⟨(some 15), (some (13, false)), .act, .bin .geq (.tmp 14) (.const (.int .u8 65))⟩,
    ⟨(some 16), (some (13, false)), .act, .mv (.tmp 15)⟩,
    ⟨(some 17), (some (16, true)), .act, .mv (.tmp 0)⟩,
    ⟨(some 18), (some (16, true)), .act, .bin .leq (.tmp 17) (.const (.int .u8 90))⟩,
    ⟨(some 19), (some (13, false)), .act, .pick (.tmp 16) (.tmp 18) (.const (.bool false))⟩,
    ⟨(some 20), none, .act, .pick (.tmp 13) (.const (.bool true)) (.tmp 19)⟩,
    ⟨(some 2), none, .act, .mv (.tmp 20)⟩])
  .ret))
theorem res64 : ∃ c, Try.f64.body = some c ∧ resCode Try.prog 21 c = some r64 := ⟨_, rfl, by kernel_rfl⟩
theorem rr64 : resRes Try.prog Try.f64.results.toList = some [.tmp 2] := by kernel_rfl
theorem letter_spec (c : UInt8) (h : AHeap) : ACalls Try.prog 64 [u8 c] h (fun x h' => x = bl (isLetter c) ∧ h' = h) := by
  obtain ⟨c', hc1, hc2⟩ := res64
  refine ACalls.enter Try.func64 hc1 Try.ntmps64 hc2 (Nat.le_of_ble_eq_true rfl) rfl ?_
  repeat' (first | refine S.nilK ?_ | (refine S.op rfl ?_; first | refine R.mv rfl ?_ | refine R.pickT rfl rfl ?_ | refine R.pickF rfl rfl ?_ | ((first | refine S.leq rfl rfl ?_ ?_ | refine S.geq rfl rfl ?_ ?_ | refine S.eqInt rfl rfl ?_ ?_) <;> intro hlt <;> try (exfalso; omega))) | refine S.skip rfl ?_ | refine S.seq ?_ | refine S.region ?_)
  all_goals
    apply S.ret rr64
    case hx => repeat (first | exact ResAt.nil | apply ResAt.tmp rfl)
    exact ⟨congrArg bl (Eq.symm (by first | exact decide_eq_true (by omega) | exact decide_eq_false (by omega))), rfl⟩
def r66 : RCode :=
  (.seq (.region [
    ⟨(some 2), none, .act, .mv (.const (.bool false))⟩])
  (.seq (.region [
    ⟨(some 3), none, .act, .mv (.tmp 0)⟩,
    ⟨(some 4), none, .act, .bin .geq (.tmp 3) (.const (.int .u8 48))⟩,
    ⟨(some 5), none, .act, .mv (.tmp 4)⟩,
    ⟨(some 6), (some (5, true)), .act, .mv (.tmp 0)⟩,
    ⟨(some 7), (some (5, true)), .act, .bin .leq (.tmp 6) (.const (.int .u8 57))⟩,
    ⟨(some 8), none, .act, .pick (.tmp 5) (.tmp 7) (.const (.bool false))⟩,
    ⟨(some 2), none, .act, .mv (.tmp 8)⟩])
  .ret))
theorem res66 : ∃ c, Try.f66.body = some c ∧ resCode Try.prog 9 c = some r66 := ⟨_, rfl, by kernel_rfl⟩
theorem rr66 : resRes Try.prog Try.f66.results.toList = some [.tmp 2] := by kernel_rfl
theorem digit_spec (c : UInt8) (h : AHeap) : ACalls Try.prog 66 [u8 c] h (fun x h' => x = bl (isDigit c) ∧ h' = h) := by
  obtain ⟨c', hc1, hc2⟩ := res66
  refine ACalls.enter Try.func66 hc1 Try.ntmps66 hc2 (Nat.le_of_ble_eq_true rfl) rfl ?_
  repeat' (first | refine S.nilK ?_ | (refine S.op rfl ?_; first | refine R.mv rfl ?_ | refine R.pickT rfl rfl ?_ | refine R.pickF rfl rfl ?_ | ((first | refine S.leq rfl rfl ?_ ?_ | refine S.geq rfl rfl ?_ ?_) <;> intro hlt <;> try (exfalso; omega))) | refine S.skip rfl ?_ | refine S.seq ?_ | refine S.region ?_)
  all_goals
    apply S.ret rr66
    case hx => repeat (first | exact ResAt.nil | apply ResAt.tmp rfl)
    exact ⟨congrArg bl (Eq.symm (by first | exact decide_eq_true (by omega) | exact decide_eq_false (by omega))), rfl⟩
def r76 : RCode :=
  (.seq (.region [
    ⟨(some 2), none, .act, .mv (.const (.int .u8 0))⟩])
  (.seq (.seq (.region [
    ⟨(some 3), none, .act, .mv (.tmp 0)⟩,
    ⟨(some 4), none, .act, .bin .geq (.tmp 3) (.const (.int .u8 65))⟩,
    ⟨(some 5), none, .act, .mv (.tmp 4)⟩,
    ⟨(some 6), (some (5, true)), .act, .mv (.tmp 0)⟩,
    ⟨(some 7), (some (5, true)), .act, .bin .leq (.tmp 6) (.const (.int .u8 90))⟩,
    ⟨(some 8), none, .act, .pick (.tmp 5) (.tmp 7) (.const (.bool false))⟩])
  (.cond (.tmp 8)
   (.seq (.region [
     ⟨(some 9), none, .act, .mv (.tmp 0)⟩,
     ⟨(some 10), none, .act, .bin .add (.tmp 9) (.const (.int .u8 97))⟩,
     ⟨(some 11), none, .act, .bin .sub (.tmp 10) (.const (.int .u8 65))⟩,
     ⟨(some 2), none, .act, .mv (.tmp 11)⟩])
   .ret)
   .skip))
  (.seq (.region [
    ⟨(some 12), none, .act, .mv (.tmp 0)⟩,
    ⟨(some 2), none, .act, .mv (.tmp 12)⟩])
  .ret)))
theorem res76 : ∃ c, Try.f76.body = some c ∧ resCode Try.prog 13 c = some r76 := ⟨_, rfl, by kernel_rfl⟩
theorem rr76 : resRes Try.prog Try.f76.results.toList = some [.tmp 2] := by kernel_rfl
theorem small_spec (c : UInt8) (h : AHeap) : ACalls Try.prog 76 [u8 c] h (fun x h' => x = u8 (small c) ∧ h' = h) := by
  obtain ⟨c', hc1, hc2⟩ := res76
  refine ACalls.enter Try.func76 hc1 Try.ntmps76 hc2 (Nat.le_of_ble_eq_true rfl) rfl ?_
  have hlt := c.toNat_lt
  repeat' (first | refine S.nilK ?_ | (refine S.op rfl ?_; first | refine S.arith rfl rfl rfl ?_ | refine R.mv rfl ?_ | refine R.pickT rfl rfl ?_ | refine R.pickF rfl rfl ?_ | ((first | refine S.leq rfl rfl ?_ ?_ | refine S.geq rfl rfl ?_ ?_) <;> intro hlt <;> try (exfalso; omega))) | refine S.skip rfl ?_ | refine S.seq ?_ | refine S.region ?_ | refine S.condT rfl ?_ | refine S.condF rfl ?_ | refine RRun.skip ?_)
  · apply S.ret rr76
    case hx => repeat (first | exact ResAt.nil | apply ResAt.tmp rfl)
    refine ⟨?_, rfl⟩
    have h1 : 65 ≤ c.toNat ∧ c.toNat ≤ 90 := by omega
    show AV.v (.int .u8 _) = .v (.int .u8 ((small c).toNat : Nat))
    have e1 : IntKind.u8.wrap ((c.toNat : Int) + 97) = c.toNat + 97 := wrap_u8 (by omega) (by omega)
    rw [small_up h1.1 h1.2, e1, wrap_u8 (by omega) (by omega)]
    congr 2; omega
  all_goals
    apply S.ret rr76
    case hx => repeat (first | exact ResAt.nil | apply ResAt.tmp rfl)
    exact ⟨congrArg u8 (small_not (by omega)).symm, rfl⟩
def r75 : RCode :=
  (.seq (.region [
    ⟨(some 2), none, .act, .mv (.const (.bool false))⟩])
  (.seq (.region [
    ⟨(some 3), none, .act, .mv (.tmp 0)⟩,
    ⟨(some 4), none, .act, .call 64 [(.tmp 3)]⟩,
    ⟨(some 5), none, .act, .mv (.tmp 4)⟩,
    ⟨(some 6), (some (5, false)), .act, .mv (.tmp 0)⟩,
    ⟨(some 7), (some (5, false)), .act, .call 66 [(.tmp 6)]⟩,
    ⟨(some 8), none, .act, .pick (.tmp 5) (.const (.bool true)) (.tmp 7)⟩,
    ⟨(some 2), none, .act, .mv (.tmp 8)⟩])
  .ret))
theorem res75 : ∃ c, Try.f75.body = some c ∧ resCode Try.prog 9 c = some r75 := ⟨_, rfl, by kernel_rfl⟩
theorem rr75 : resRes Try.prog Try.f75.results.toList = some [.tmp 2] := by kernel_rfl
theorem word1_spec (c : UInt8) (h : AHeap) : ACalls Try.prog 75 [u8 c] h (fun x h' => x = bl (isWord c) ∧ h' = h) := by
  obtain ⟨c', hc1, hc2⟩ := res75
  refine ACalls.enter Try.func75 hc1 Try.ntmps75 hc2 (Nat.le_of_ble_eq_true rfl) rfl ?_
  have c1 := letter_spec c h
  have c2 := digit_spec c h
  unfold isWord
  cases hl : isLetter c <;> cases hd : isDigit c <;> rw [hl] at c1 <;> rw [hd] at c2
  all_goals
    repeat' (first | refine S.nilK ?_ | (refine S.op rfl ?_; first | refine R.callQ (by decide) rfl c1 ?_ | refine R.callQ (by decide) rfl c2 ?_ | refine R.mv rfl ?_ | refine R.pickT rfl rfl ?_ | refine R.pickF rfl rfl ?_) | refine S.skip rfl ?_ | refine S.seq ?_ | refine S.region ?_)
    apply S.ret rr75
    case hx => repeat (first | exact ResAt.nil | apply ResAt.tmp rfl)
    exact ⟨rfl, rfl⟩
def cut (s : List UInt8) (i : Nat) : List AV := [str s, i64 i]
def Tells (f : FuncId) (p : UInt8 → Bool) : Prop := plainCallee Try.prog f = true ∧ ∀ c h, ACalls Try.prog f [u8 c] h (fun x h' => x = bl (p c) ∧ h' = h)
def r55l0 : RCode :=
  (.seq (.seq (.region [
    ⟨(some 10), none, .pure, .mv (.tmp 0)⟩,
    ⟨(some 11), none, .pure, .nilCheck (.tmp 10)⟩,
    ⟨(some 12), none, .pure, .fieldAddr 1 (.tmp 11)⟩,
    ⟨(some 13), none, .read, .load false 1 (.tmp 12)⟩,
    ⟨(some 14), none, .pure, .mv (.tmp 0)⟩,
    ⟨(some 15), none, .pure, .nilCheck (.tmp 14)⟩,
    ⟨(some 16), none, .pure, .fieldAddr 0 (.tmp 15)⟩,
    ⟨(some 17), none, .read, .load false 1 (.tmp 16)⟩,
    ⟨(some 18), none, .pure, .lenStr (.tmp 17)⟩,
    ⟨(some 19), none, .pure, .bin .lss (.tmp 13) (.tmp 18)⟩,
    ⟨(some 20), none, .pure, .mv (.tmp 19)⟩,
    ⟨(some 21), (some (20, true)), .pure, .mv (.tmp 1)⟩,
    ⟨(some 22), (some (20, true)), .pure, .mv (.tmp 0)⟩,
    ⟨(some 23), (some (20, true)), .pure, .nilCheck (.tmp 22)⟩,
    ⟨(some 24), (some (20, true)), .pure, .fieldAddr 0 (.tmp 23)⟩,
    ⟨(some 25), (some (20, true)), .read, .load false 1 (.tmp 24)⟩,
    ⟨(some 26), (some (20, true)), .pure, .mv (.tmp 0)⟩,
    ⟨(some 27), (some (20, true)), .pure, .nilCheck (.tmp 26)⟩,
    ⟨(some 28), (some (20, true)), .pure, .fieldAddr 1 (.tmp 27)⟩,
    ⟨(some 29), (some (20, true)), .read, .load false 1 (.tmp 28)⟩,
    ⟨(some 30), (some (20, true)), .pure, .indexStr (.tmp 25) (.tmp 29)⟩,
    ⟨(some 31), (some (20, true)), .act, .callv (.tmp 21) [(.tmp 30)]⟩,
    ⟨(some 32), none, .pure, .pick (.tmp 20) (.tmp 31) (.const (.bool false))⟩])
  (.cond (.tmp 32)
   .skip
   (.exit 0)))
  (.block 1
   (.region [
     ⟨(some 33), none, .act, .mv (.tmp 0)⟩,
     ⟨(some 34), none, .act, .nilCheck (.tmp 33)⟩,
     ⟨(some 35), none, .act, .fieldAddr 1 (.tmp 34)⟩,
     ⟨(some 36), none, .act, .load false 1 (.tmp 35)⟩,
     ⟨(some 37), none, .act, .bin .add (.tmp 36) (.const (.int .i64 1))⟩,
     ⟨(some 38), none, .act, .nilCheck (.tmp 33)⟩,
     ⟨(some 39), none, .act, .fieldAddr 1 (.tmp 38)⟩,
     ⟨none, none, .act, .store 1 (.tmp 39) (.tmp 37)⟩])))
def r55 : RCode :=
  (.seq (.region [
    ⟨(some 4), none, .act, .mv (.const (.string ⟨#[]⟩))⟩])
  (.seq (.region [
    ⟨(some 6), none, .act, .mv (.tmp 0)⟩,
    ⟨(some 7), none, .act, .nilCheck (.tmp 6)⟩,
    ⟨(some 8), none, .act, .fieldAddr 1 (.tmp 7)⟩,
    ⟨(some 9), none, .act, .load false 1 (.tmp 8)⟩,
    ⟨(some 5), none, .act, .mv (.tmp 9)⟩])
  (.seq (.block 0
   (.loop r55l0))
  (.seq (.region [
    ⟨(some 40), none, .pure, .mv (.tmp 0)⟩,
    ⟨(some 41), none, .pure, .nilCheck (.tmp 40)⟩,
    ⟨(some 42), none, .pure, .fieldAddr 0 (.tmp 41)⟩,
    ⟨(some 43), none, .read, .load false 1 (.tmp 42)⟩,
    ⟨(some 44), none, .pure, .mv (.tmp 5)⟩,
    ⟨(some 45), none, .pure, .mv (.tmp 0)⟩,
    ⟨(some 46), none, .pure, .nilCheck (.tmp 45)⟩,
    ⟨(some 47), none, .pure, .fieldAddr 1 (.tmp 46)⟩,
    ⟨(some 48), none, .read, .load false 1 (.tmp 47)⟩,
    ⟨(some 49), none, .pure, .sliceStr (.tmp 43) (some (.tmp 44)) (some (.tmp 48))⟩,
    ⟨(some 4), none, .pure, .mv (.tmp 49)⟩])
  .ret))))
theorem res55 : ∃ c, Try.f55.body = some c ∧ resCode Try.prog 50 c = some r55 := ⟨_, rfl, by kernel_rfl⟩
theorem rr55 : resRes Try.prog Try.f55.results.toList = some [.tmp 4] := by kernel_rfl
theorem run_loop {f : FuncId} {p : UInt8 → Bool} (hf : Tells f p) (s : List UInt8) (hs : s.length ≤ 4611686018427387904) (b : Nat) (k : List RT) (Q : AV → AHeap → Prop) (j0 : Nat) : ∀ (m i : Nat) (h : AHeap), i + m = s.length → h b = some (.box (cut s i)) →
    RRun Try.prog Try.f55 50 k (Env.get [(0, ptr b), (1, .v (.func (.func f) #[] #[])), (5, i64 j0)]) (h.set b (.box (cut s (i + ((s.drop i).takeWhile p).length)))) Q →
    RRun Try.prog Try.f55 50 (.inLoop r55l0 :: .inBlock 0 :: k) (Env.get [(0, ptr b), (1, .v (.func (.func f) #[] #[])), (5, i64 j0)]) h Q := by
  intro m
  induction m with
  | zero =>
    intro i h hi hb hk
    have hd : s.drop i = [] := by simp; omega
    rw [hd, List.takeWhile_nil, List.length_nil, Nat.add_zero, AHeap.set_eq h hb] at hk
    refine RRun.inLoop ?_
    repeat' (first | refine S.nilK ?_ | (refine S.op rfl ?_; first | refine S.lenS rfl ?_ | refine R.mv rfl ?_ | refine R.fieldAddr rfl ?_ | refine R.nilCheck rfl ?_ | refine R.load (by decide) rfl (by (repeat' (first | assumption)); first | done | fail) rfl ?_ | refine R.pickF rfl rfl ?_ | ((first | refine S.lss rfl rfl ?_ ?_) <;> intro hlt <;> try (exfalso; omega))) | refine S.skip rfl ?_ | refine S.seq ?_ | refine S.region ?_ | refine S.condF rfl ?_ | refine RRun.exit rfl ?_)
    exact S.keep [0, 1, 5] rfl hk
  | succ m ih =>
    intro i h hi hb hk
    have hlt : i < s.length := by omega
    have hd : s.drop i = s[i] :: s.drop (i + 1) := List.drop_eq_getElem_cons hlt
    have hg : s[((i : Nat) : Int).toNat]? = some s[i] := by simp [hlt]
    have c1 := hf.2 s[i] h
    refine RRun.inLoop ?_
    rw [hd, List.takeWhile_cons] at hk
    cases hp : p s[i] with
    | false =>
      rw [hp] at c1 hk
      simp only [Bool.false_eq_true, if_false, List.length_nil, Nat.add_zero] at hk
      rw [AHeap.set_eq h hb] at hk
      repeat' (first | refine S.nilK ?_ | (refine S.op rfl ?_; first | refine S.lenS rfl ?_ | refine S.indexS rfl rfl (by omega) hg ?_ | refine R.callvQ (by decide) rfl hf.1 rfl c1 ?_ | refine R.mv rfl ?_ | refine R.fieldAddr rfl ?_ | refine R.nilCheck rfl ?_ | refine R.load (by decide) rfl (by (repeat' (first | assumption)); first | done | fail) rfl ?_ | refine R.pickT rfl rfl ?_ | ((first | refine S.lss rfl rfl ?_ ?_) <;> intro hlt <;> try (exfalso; omega))) | refine S.seq ?_ | refine S.region ?_ | refine S.condF rfl ?_ | refine RRun.exit rfl ?_)
      exact S.keep [0, 1, 5] rfl hk
    | true =>
      rw [hp] at c1 hk
      repeat' (first | refine S.nilK ?_ | (refine S.op rfl ?_; first | refine S.lenS rfl ?_ | refine S.indexS rfl rfl (by omega) hg ?_ | refine R.callvQ (by decide) rfl hf.1 rfl c1 ?_ | refine R.mv rfl ?_ | refine R.fieldAddr rfl ?_ | refine R.nilCheck rfl ?_ | refine R.load (by decide) rfl (by (repeat' (first | assumption)); first | done | fail) rfl ?_ | refine S.addI rfl rfl (by omega) ?_ | refine R.pickT rfl rfl ?_ | ((first | refine S.lss rfl rfl ?_ ?_) <;> intro hlt <;> try (exfalso; omega))) | (refine S.op0 rfl ?_; first | refine S.store rfl rfl (by (repeat' (first | assumption)); first | done | fail) rfl rfl rfl (by rfl) rfl ?_) | refine S.seq ?_ | refine S.region ?_ | refine S.condT rfl ?_ | refine RRun.skip ?_ | refine RRun.block ?_ | refine RRun.inBlock ?_)
      show RRun _ _ _ _ _ (h.set b (.box [str s, i64 ((i : Int) + 1)])) _
      rw [show ((i : Int) + 1) = ((i + 1 : Nat) : Int) by omega]
      refine S.keep [0, 1, 5] rfl ?_
      refine ih (i + 1) _ (by omega) (AHeap.set_same _ _ _) ?_
      rw [AHeap.set_set]
      have : i + 1 + ((s.drop (i + 1)).takeWhile p).length = i + (s[i] :: (s.drop (i + 1)).takeWhile p).length := by simp; omega
      rw [this]; exact hk
theorem run_spec {f : FuncId} {p : UInt8 → Bool} (hf : Tells f p) (s : List UInt8) (hs : s.length ≤ 4611686018427387904) (b : Nat) (i : Nat) (hi : i ≤ s.length) (h : AHeap) (hb : h b = some (.box (cut s i))) :
    ACalls Try.prog 55 [ptr b, .v (.func (.func f) #[] #[])] h (fun x h' => x = str ((s.drop i).takeWhile p) ∧ h' = h.set b (.box (cut s (i + ((s.drop i).takeWhile p).length)))) := by
  obtain ⟨c, hc1, hc2⟩ := res55
  refine ACalls.enter Try.func55 hc1 Try.ntmps55 hc2 (Nat.le_of_ble_eq_true rfl) rfl ?_
  repeat' (first | refine S.nilK ?_ | (refine S.op rfl ?_; first | refine R.mv rfl ?_ | refine R.fieldAddr rfl ?_ | refine R.nilCheck rfl ?_ | refine R.load (by decide) rfl (by (repeat' (first | assumption)); first | done | fail) rfl ?_) | refine S.seq ?_ | refine S.region ?_ | refine RRun.block ?_)
  have hlen : ((s.drop i).takeWhile p).length ≤ s.length - i := by
    have := (List.takeWhile_prefix (l := s.drop i) p).length_le
    simpa using this
  refine RRun.loopIn (S.keep [0, 1, 5] rfl (run_loop hf s hs b _ _ i (s.length - i) i h (by omega) hb ?_))
  have hb1 := AHeap.set_same h b (.box (cut s (i + ((s.drop i).takeWhile p).length)))
  generalize h.set b (.box (cut s (i + ((s.drop i).takeWhile p).length))) = h1 at *
  repeat' (first | refine S.nilK ?_ | (refine S.op rfl ?_; first | refine S.sliceS rfl rfl rfl (by omega) (by omega) (by omega) ?_ | refine R.mv rfl ?_ | refine R.fieldAddr rfl ?_ | refine R.nilCheck rfl ?_ | refine R.load (by decide) rfl (by (repeat' (first | assumption)); first | done | fail) rfl ?_) | refine S.seq ?_ | refine S.region ?_)
  apply S.ret rr55
  case hx => repeat (first | exact ResAt.nil | apply ResAt.tmp rfl)
  refine ⟨?_, rfl⟩
  have : (s.drop i).takeWhile p = (s.drop i).take ((s.drop i).takeWhile p).length := List.prefix_iff_eq_take.1 (List.takeWhile_prefix p)
  show str _ = str _
  congr 3
  rw [show ((i : Nat) : Int).toNat = i by omega, show (((i + ((s.drop i).takeWhile p).length : Nat) : Int)).toNat - i = ((s.drop i).takeWhile p).length by omega]
  exact this.symm
end Go.Proofs.Ytdinnoejipmiiaa

namespace Go.Proofs.Ytdinnoejipmiiaa
open Go.Av
def okN (n : Int) : AV := .tu [i64 (if Fits n then n else 0), bl (decide (Fits n))]
def r83 : RCode :=
  (.seq (.region [
    ⟨(some 4), none, .act, .mv (.const (.int .i64 0))⟩,
    ⟨(some 5), none, .act, .mv (.const (.bool false))⟩])
  (.seq (.seq (.region [
    ⟨(some 6), none, .act, .mv (.tmp 1)⟩,
    ⟨(some 7), none, .act, .un .not (.tmp 6)⟩])
  (.cond (.tmp 7)
   (.seq (.region [
     ⟨(some 4), none, .act, .mv (.const (.int .i64 0))⟩,
     ⟨(some 5), none, .act, .mv (.const (.bool false))⟩])
   .ret)
   .skip))
  (.seq (.region [
    ⟨(some 8), none, .act, .mv (.tmp 0)⟩,
    ⟨(some 4), none, .act, .mv (.tmp 8)⟩,
    ⟨(some 5), none, .act, .mv (.const (.bool true))⟩])
  .ret)))
theorem res83 : ∃ c, Try.f83.body = some c ∧ resCode Try.prog 9 c = some r83 := ⟨_, rfl, by kernel_rfl⟩
theorem rr83 : resRes Try.prog Try.f83.results.toList = some [.tmp 4, .tmp 5] := by kernel_rfl
theorem kept_spec (n : Int) (ok : Bool) (h : AHeap) : ACalls Try.prog 83 [i64 n, bl ok] h (fun x h' => x = .tu [i64 (if ok then n else 0), bl ok] ∧ h' = h) := by
  obtain ⟨c', hc1, hc2⟩ := res83
  refine ACalls.enter Try.func83 hc1 Try.ntmps83 hc2 (Nat.le_of_ble_eq_true rfl) rfl ?_
  cases ok
  all_goals
    repeat' (first | refine S.nilK ?_ | (refine S.op rfl ?_; first | refine R.mv rfl ?_ | refine R.not rfl ?_) | refine S.seq ?_ | refine S.region ?_ | refine S.condT rfl ?_ | refine S.condF rfl ?_ | refine RRun.skip ?_)
    apply S.ret rr83
    case hx => repeat (first | exact ResAt.nil | apply ResAt.tmp rfl)
    exact ⟨rfl, rfl⟩
def r84 : RCode :=
  (.seq (.region [
    ⟨(some 4), none, .act, .mv (.const (.bool false))⟩])
  (.seq (.region [
    ⟨(some 5), none, .act, .mv (.tmp 0)⟩,
    ⟨(some 6), none, .act, .mv (.tmp 1)⟩,
    ⟨(some 7), none, .act, .bin .xor (.tmp 5) (.tmp 6)⟩,
    ⟨(some 8), none, .act, .bin .shr (.tmp 7) (.const (.int .u64 63))⟩,
    ⟨(some 9), none, .act, .eq false .int (.tmp 8) (.const (.int .i64 0))⟩,
    ⟨(some 4), none, .act, .mv (.tmp 9)⟩])
  .ret))
theorem res84 : ∃ c, Try.f84.body = some c ∧ resCode Try.prog 10 c = some r84 := ⟨_, rfl, by kernel_rfl⟩
theorem rr84 : resRes Try.prog Try.f84.results.toList = some [.tmp 4] := by kernel_rfl
theorem same_spec (a b : Int) (ha : Fits a) (hb : Fits b) (h : AHeap) : ACalls Try.prog 84 [i64 a, i64 b] h (fun x h' => x = bl (decide (a < 0 ↔ b < 0)) ∧ h' = h) := by
  obtain ⟨c', hc1, hc2⟩ := res84
  refine ACalls.enter Try.func84 hc1 Try.ntmps84 hc2 (Nat.le_of_ble_eq_true rfl) rfl ?_
  have hx := xor_sign ha hb
  have hf := fdiv_sign (wrap_i64_fits ((BitVec.ofInt 64 a ^^^ BitVec.ofInt 64 b).toNat : Int))
  repeat' (first | refine S.nilK ?_ | (refine S.op rfl ?_; first | refine R.bin rfl rfl (by rfl) ?_ | refine R.shr rfl rfl (by decide) ?_ | refine R.mv rfl ?_ | ((first | refine S.eqInt rfl rfl ?_ ?_) <;> intro hlt <;> try (exfalso; omega))) | refine S.seq ?_ | refine S.region ?_)
  · apply S.ret rr84
    case hx => repeat (first | exact ResAt.nil | apply ResAt.tmp rfl)
    exact ⟨congrArg bl (Eq.symm (decide_eq_true (Decidable.not_not.1 (fun e => (hf.1 hlt) (hx.2 e))))), rfl⟩
  · apply S.ret rr84
    case hx => repeat (first | exact ResAt.nil | apply ResAt.tmp rfl)
    exact ⟨congrArg bl (Eq.symm (decide_eq_false (fun e => hlt (hf.2 (fun e' => (hx.1 e') e))))), rfl⟩
theorem wrap_u64_min {n : Int} (hn : Fits n) : IntKind.u64.wrap n = 9223372036854775808 ↔ n = -9223372036854775808 := by
  simp only [IntKind.wrap, IntKind.bits, IntKind.signed]
  simp
  omega
def r87 : RCode :=
  (.seq (.region [
    ⟨(some 2), none, .act, .mv (.const (.bool false))⟩])
  (.seq (.region [
    ⟨(some 3), none, .act, .mv (.tmp 0)⟩,
    ⟨(some 4), none, .act, .convInt .u64 (.tmp 3)⟩,
    ⟨(some 5), none, .act, .eq false .int (.tmp 4) (.const (.int .u64 9223372036854775808))⟩,
    ⟨(some 2), none, .act, .mv (.tmp 5)⟩])
  .ret))
theorem res87 : ∃ c, Try.f87.body = some c ∧ resCode Try.prog 6 c = some r87 := ⟨_, rfl, by kernel_rfl⟩
theorem rr87 : resRes Try.prog Try.f87.results.toList = some [.tmp 2] := by kernel_rfl
theorem least_spec (n : Int) (hn : Fits n) (h : AHeap) : ACalls Try.prog 87 [i64 n] h (fun x h' => x = bl (decide (n = -9223372036854775808)) ∧ h' = h) := by
  obtain ⟨c', hc1, hc2⟩ := res87
  refine ACalls.enter Try.func87 hc1 Try.ntmps87 hc2 (Nat.le_of_ble_eq_true rfl) rfl ?_
  have hw := wrap_u64_min hn
  repeat' (first | refine S.nilK ?_ | (refine S.op rfl ?_; first | refine S.eqInt rfl rfl (fun hlt => ?_) (fun hlt => ?_) | refine R.mv rfl ?_ | refine R.convInt rfl ?_) | refine S.seq ?_ | refine S.region ?_)
  · apply S.ret rr87
    case hx => repeat (first | exact ResAt.nil | apply ResAt.tmp rfl)
    exact ⟨congrArg bl (Eq.symm (decide_eq_true (hw.1 hlt))), rfl⟩
  · apply S.ret rr87
    case hx => repeat (first | exact ResAt.nil | apply ResAt.tmp rfl)
    exact ⟨congrArg bl (Eq.symm (decide_eq_false (fun e => hlt (hw.2 e)))), rfl⟩
theorem okN_of {n m : Int} {b : Bool} (hb : b = decide (Fits n)) (hm : Fits n → m = n) : AV.tu [i64 (if b then m else 0), bl b] = okN n := by
  subst hb
  unfold okN
  by_cases h : Fits n
  · rw [if_pos (decide_eq_true h), if_pos h, hm h]
  · rw [if_neg (by simp only [decide_eq_true_eq]; exact h), if_neg h]
def r82 : RCode :=
  (.seq (.region [
    ⟨(some 2), none, .act, .mv (.const (.int .i64 0))⟩,
    ⟨(some 3), none, .act, .mv (.const (.bool false))⟩])
  (.seq (.region [
    ⟨(some 4), none, .act, .mv (.tmp 0)⟩,
    ⟨(some 5), none, .act, .un .neg (.tmp 4)⟩,
    ⟨(some 6), none, .act, .mv (.tmp 0)⟩,
    ⟨(some 7), none, .act, .call 87 [(.tmp 6)]⟩,
    ⟨(some 8), none, .act, .un .not (.tmp 7)⟩,
    ⟨(some 9), none, .act, .call 83 [(.tmp 5), (.tmp 8)]⟩,
    ⟨(some 10), none, .act, .extract (.tmp 9) 0⟩,
    ⟨(some 11), none, .act, .extract (.tmp 9) 1⟩,
    ⟨(some 2), none, .act, .mv (.tmp 10)⟩,
    ⟨(some 3), none, .act, .mv (.tmp 11)⟩])
  .ret))
theorem res82 : ∃ c, Try.f82.body = some c ∧ resCode Try.prog 12 c = some r82 := ⟨_, rfl, by kernel_rfl⟩
theorem rr82 : resRes Try.prog Try.f82.results.toList = some [.tmp 2, .tmp 3] := by kernel_rfl
theorem neg_spec (n : Int) (hn : Fits n) (h : AHeap) : ACalls Try.prog 82 [i64 n] h (fun x h' => x = okN (-n) ∧ h' = h) := by
  obtain ⟨c', hc1, hc2⟩ := res82
  refine ACalls.enter Try.func82 hc1 Try.ntmps82 hc2 (Nat.le_of_ble_eq_true rfl) rfl ?_
  have c1 := least_spec n hn h
  have hb : (!(decide (n = -9223372036854775808))) = decide (Fits (-n)) := by
    by_cases he : n = -9223372036854775808
    · subst he; decide
    · simp only [he, decide_false, Bool.not_false]; exact (decide_eq_true (by omega)).symm
  have c2 := kept_spec (IntKind.i64.wrap (0 - n)) (!(decide (n = -9223372036854775808))) h
  rw [okN_of hb (fun hf => by have := wrap_i64_fits (0 - n); obtain ⟨k, hk⟩ := wrap_i64_mod (0 - n); omega)] at c2
  repeat' (first | refine S.nilK ?_ | (refine S.op rfl ?_; first | refine R.neg rfl ?_ | refine R.callQ (by decide) rfl c1 ?_ | refine R.callQ (by decide) rfl c2 ?_ | refine R.mv rfl ?_ | refine R.not rfl ?_ | refine R.extract rfl rfl ?_) | refine S.seq ?_ | refine S.region ?_)
  apply S.ret rr82
  case hx => repeat (first | exact ResAt.nil | apply ResAt.tmp rfl)
  exact ⟨rfl, rfl⟩
def r78 : RCode :=
  (.seq (.region [
    ⟨(some 4), none, .act, .mv (.const (.int .i64 0))⟩,
    ⟨(some 5), none, .act, .mv (.const (.bool false))⟩])
  (.seq (.region [
    ⟨(some 7), none, .act, .mv (.tmp 0)⟩,
    ⟨(some 8), none, .act, .mv (.tmp 1)⟩,
    ⟨(some 9), none, .act, .bin .add (.tmp 7) (.tmp 8)⟩,
    ⟨(some 6), none, .act, .mv (.tmp 9)⟩])
  (.seq (.region [
    ⟨(some 10), none, .act, .mv (.tmp 6)⟩,
    ⟨(some 11), none, .act, .mv (.tmp 0)⟩,
    ⟨(some 12), none, .act, .mv (.tmp 1)⟩,
    ⟨(some 13), none, .act, .call 84 [(.tmp 11), (.tmp 12)]⟩,
    ⟨(some 14), none, .act, .un .not (.tmp 13)⟩,
    ⟨(some 15), none, .act, .mv (.tmp 14)⟩,
    ⟨(some 16), (some (15, false)), .act, .mv (.tmp 0)⟩,
    ⟨(some 17), (some (15, false)), .act, .mv (.tmp 6)⟩,
    ⟨(some 18), (some (15, false)), .act, .call 84 [(.tmp 16), (.tmp 17)]⟩,
    ⟨(some 19), none, .act, .pick (.tmp 15) (.const (.bool true)) (.tmp 18)⟩,
    ⟨(some 20), none, .act, .call 83 [(.tmp 10), (.tmp 19)]⟩,
    ⟨(some 21), none, .act, .extract (.tmp 20) 0⟩,
    ⟨(some 22), none, .act, .extract (.tmp 20) 1⟩,
    ⟨(some 4), none, .act, .mv (.tmp 21)⟩,
    ⟨(some 5), none, .act, .mv (.tmp 22)⟩])
  .ret)))
theorem res78 : ∃ c, Try.f78.body = some c ∧ resCode Try.prog 23 c = some r78 := ⟨_, rfl, by kernel_rfl⟩
theorem rr78 : resRes Try.prog Try.f78.results.toList = some [.tmp 4, .tmp 5] := by kernel_rfl
theorem add_spec (a b : Int) (ha : Fits a) (hb : Fits b) (h : AHeap) : ACalls Try.prog 78 [i64 a, i64 b] h (fun x h' => x = okN (a + b) ∧ h' = h) := by
  obtain ⟨c', hc1, hc2⟩ := res78
  refine ACalls.enter Try.func78 hc1 Try.ntmps78 hc2 (Nat.le_of_ble_eq_true rfl) rfl ?_
  have hw := wrap_i64_fits (a + b)
  obtain ⟨k, hk⟩ := wrap_i64_mod (a + b)
  have c1 := same_spec a b ha hb h
  have c2 := same_spec a (IntKind.i64.wrap (a + b)) ha hw h
  cases h1 : decide (a < 0 ↔ b < 0) with
  | false =>
    rw [h1] at c1
    have h1' := of_decide_eq_false h1
    have c3 := kept_spec (IntKind.i64.wrap (a + b)) true h
    rw [okN_of (n := a + b) (decide_eq_true (by omega)).symm (fun hf => by omega)] at c3
    repeat' (first | refine S.nilK ?_ | (refine S.op rfl ?_; first | refine S.arith rfl rfl rfl ?_ | refine R.callQ (by decide) rfl c1 ?_ | refine R.callQ (by decide) rfl c3 ?_ | refine R.mv rfl ?_ | refine R.pickT rfl rfl ?_ | refine R.not rfl ?_ | refine R.extract rfl rfl ?_) | refine S.skip rfl ?_ | refine S.seq ?_ | refine S.region ?_)
    apply S.ret rr78
    case hx => repeat (first | exact ResAt.nil | apply ResAt.tmp rfl)
    exact ⟨rfl, rfl⟩
  | true =>
    rw [h1] at c1
    have h1' := of_decide_eq_true h1
    have c3 := kept_spec (IntKind.i64.wrap (a + b)) (decide (a < 0 ↔ IntKind.i64.wrap (a + b) < 0)) h
    rw [okN_of (n := a + b) (decide_eq_decide.2 (by omega)) (fun hf => by omega)] at c3
    repeat' (first | refine S.nilK ?_ | (refine S.op rfl ?_; first | refine S.arith rfl rfl rfl ?_ | refine R.callQ (by decide) rfl c1 ?_ | refine R.callQ (by decide) rfl c2 ?_ | refine R.callQ (by decide) rfl c3 ?_ | refine R.mv rfl ?_ | refine R.pickF rfl rfl ?_ | refine R.not rfl ?_ | refine R.extract rfl rfl ?_) | refine S.seq ?_ | refine S.region ?_)
    apply S.ret rr78
    case hx => repeat (first | exact ResAt.nil | apply ResAt.tmp rfl)
    exact ⟨rfl, rfl⟩
def r77 : RCode :=
  (.seq (.region [
    ⟨(some 4), none, .act, .mv (.const (.int .i64 0))⟩,
    ⟨(some 5), none, .act, .mv (.const (.bool false))⟩])
  (.seq (.seq (.region [
    ⟨(some 7), none, .act, .mv (.tmp 0)⟩,
    ⟨(some 8), none, .act, .eq false .int (.tmp 7) (.const (.int .i64 0))⟩,
    ⟨(some 9), none, .act, .mv (.tmp 8)⟩,
    ⟨(some 10), (some (9, false)), .act, .mv (.tmp 1)⟩,
    ⟨(some 11), (some (9, false)), .act, .eq false .int (.tmp 10) (.const (.int .i64 0))⟩,
    ⟨(some 12), none, .act, .pick (.tmp 9) (.const (.bool true)) (.tmp 11)⟩])
  (.cond (.tmp 12)
   (.seq (.region [
     ⟨(some 4), none, .act, .mv (.const (.int .i64 0))⟩,
     ⟨(some 5), none, .act, .mv (.const (.bool true))⟩])
   .ret)
   .skip))
  (.seq (.seq (.region [
    ⟨(some 13), none, .act, .mv (.tmp 0)⟩,
    ⟨(some 14), none, .act, .eq false .int (.tmp 13) (.const (.int .i64 (-1)))⟩])
  (.cond (.tmp 14)
   (.seq (.region [
     ⟨(some 15), none, .act, .mv (.tmp 1)⟩,
     ⟨(some 16), none, .act, .call 82 [(.tmp 15)]⟩,
     ⟨(some 17), none, .act, .extract (.tmp 16) 0⟩,
     ⟨(some 18), none, .act, .extract (.tmp 16) 1⟩,
     ⟨(some 4), none, .act, .mv (.tmp 17)⟩,
     ⟨(some 5), none, .act, .mv (.tmp 18)⟩])
   .ret)
   .skip))
  (.seq (.seq (.region [
    ⟨(some 19), none, .act, .mv (.tmp 1)⟩,
    ⟨(some 20), none, .act, .eq false .int (.tmp 19) (.const (.int .i64 (-1)))⟩])
  (.cond (.tmp 20)
   (.seq (.region [
     ⟨(some 21), none, .act, .mv (.tmp 0)⟩,
     ⟨(some 22), none, .act, .call 82 [(.tmp 21)]⟩,
     ⟨(some 23), none, .act, .extract (.tmp 22) 0⟩,
     ⟨(some 24), none, .act, .extract (.tmp 22) 1⟩,
     ⟨(some 4), none, .act, .mv (.tmp 23)⟩,
     ⟨(some 5), none, .act, .mv (.tmp 24)⟩])
   .ret)
   .skip))
  (.seq (.region [
    ⟨(some 25), none, .act, .mv (.tmp 0)⟩,
    ⟨(some 26), none, .act, .mv (.tmp 1)⟩,
    ⟨(some 27), none, .act, .bin .mul (.tmp 25) (.tmp 26)⟩,
    ⟨(some 6), none, .act, .mv (.tmp 27)⟩])
  (.seq (.region [
    ⟨(some 28), none, .act, .mv (.tmp 6)⟩,
    ⟨(some 29), none, .act, .mv (.tmp 6)⟩,
    ⟨(some 30), none, .act, .mv (.tmp 1)⟩,
    ⟨(some 31), none, .act, .bin .quo (.tmp 29) (.tmp 30)⟩,
    ⟨(some 32), none, .act, .mv (.tmp 0)⟩,
    ⟨(some 33), none, .act, .eq false .int (.tmp 31) (.tmp 32)⟩,
    ⟨(some 34), none, .act, .call 83 [(.tmp 28), (.tmp 33)]⟩,
    ⟨(some 35), none, .act, .extract (.tmp 34) 0⟩,
    ⟨(some 36), none, .act, .extract (.tmp 34) 1⟩,
    ⟨(some 4), none, .act, .mv (.tmp 35)⟩,
    ⟨(some 5), none, .act, .mv (.tmp 36)⟩])
  .ret))))))
theorem res77 : ∃ c, Try.f77.body = some c ∧ resCode Try.prog 37 c = some r77 := ⟨_, rfl, by kernel_rfl⟩
theorem rr77 : resRes Try.prog Try.f77.results.toList = some [.tmp 4, .tmp 5] := by kernel_rfl
theorem mul_spec (a b : Int) (ha : Fits a) (hb : Fits b) (h : AHeap) : ACalls Try.prog 77 [i64 a, i64 b] h (fun x h' => x = okN (a * b) ∧ h' = h) := by
  obtain ⟨c', hc1, hc2⟩ := res77
  refine ACalls.enter Try.func77 hc1 Try.ntmps77 hc2 (Nat.le_of_ble_eq_true rfl) rfl ?_
  have hw := wrap_i64_fits (a * b)
  obtain ⟨k, hk⟩ := wrap_i64_mod (a * b)
  have c1 := neg_spec a ha h
  have c2 := neg_spec b hb h
  by_cases ha0 : a = 0
  · subst ha0
    repeat' (first | refine S.nilK ?_ | (refine S.op rfl ?_; first | refine R.mv rfl ?_ | refine R.pickT rfl rfl ?_ | ((first | refine S.eqInt rfl rfl ?_ ?_) <;> intro hlt <;> try (exfalso; omega))) | refine S.skip rfl ?_ | refine S.seq ?_ | refine S.region ?_ | refine S.condT rfl ?_)
    all_goals
      apply S.ret rr77
      case hx => repeat (first | exact ResAt.nil | apply ResAt.tmp rfl)
      exact ⟨by rw [Int.zero_mul]; rfl, rfl⟩
  by_cases hb0 : b = 0
  · subst hb0
    repeat' (first | refine S.nilK ?_ | (refine S.op rfl ?_; first | refine R.mv rfl ?_ | refine R.pickF rfl rfl ?_ | ((first | refine S.eqInt rfl rfl ?_ ?_) <;> intro hlt <;> try (exfalso; omega))) | refine S.seq ?_ | refine S.region ?_ | refine S.condT rfl ?_)
    all_goals
      apply S.ret rr77
      case hx => repeat (first | exact ResAt.nil | apply ResAt.tmp rfl)
      exact ⟨by rw [Int.mul_zero]; rfl, rfl⟩
  by_cases ha1 : a = -1
  · subst ha1
    repeat' (first | refine S.nilK ?_ | (refine S.op rfl ?_; first | refine R.callQ (by decide) rfl c2 ?_ | refine R.mv rfl ?_ | refine R.pickF rfl rfl ?_ | refine R.extract rfl rfl ?_ | ((first | refine S.eqInt rfl rfl ?_ ?_) <;> intro hlt <;> try (exfalso; omega))) | refine S.seq ?_ | refine S.region ?_ | refine S.condT rfl ?_ | refine S.condF rfl ?_ | refine RRun.skip ?_)
    apply S.ret rr77
    case hx => repeat (first | exact ResAt.nil | apply ResAt.tmp rfl)
    exact ⟨by rw [show -1 * b = -b by omega]; rfl, rfl⟩
  by_cases hb1 : b = -1
  · subst hb1
    repeat' (first | refine S.nilK ?_ | (refine S.op rfl ?_; first | refine R.callQ (by decide) rfl c1 ?_ | refine R.mv rfl ?_ | refine R.pickF rfl rfl ?_ | refine R.extract rfl rfl ?_ | ((first | refine S.eqInt rfl rfl ?_ ?_) <;> intro hlt <;> try (exfalso; omega))) | refine S.seq ?_ | refine S.region ?_ | refine S.condT rfl ?_ | refine S.condF rfl ?_ | refine RRun.skip ?_)
    apply S.ret rr77
    case hx => repeat (first | exact ResAt.nil | apply ResAt.tmp rfl)
    exact ⟨by rw [show a * -1 = -a by omega]; rfl, rfl⟩
  have ht := tdiv_wrap (a := a) hb hb0
  have hq : binInt .quo .i64 (IntKind.i64.wrap (a * b)) b = some (.int .i64 (IntKind.i64.wrap ((IntKind.i64.wrap (a * b)).tdiv b))) := by
    simp only [binInt, if_neg hb0]
  have hqw : IntKind.i64.wrap ((IntKind.i64.wrap (a * b)).tdiv b) = (IntKind.i64.wrap (a * b)).tdiv b := by
    by_cases hb2 : b = 1
    · rw [hb2, Int.tdiv_one]
      have := wrap_i64_fits (a * 1)
      exact wrap_i64 (by omega) (by omega)
    have h1 : ((IntKind.i64.wrap (a * b)).tdiv b).natAbs ≤ (IntKind.i64.wrap (a * b)).natAbs / 2 := by
      rw [Int.natAbs_tdiv]
      exact Nat.div_le_div_left (by omega) (by omega)
    generalize (IntKind.i64.wrap (a * b)).tdiv b = q at h1 ⊢
    generalize IntKind.i64.wrap (a * b) = r at h1 hw
    exact wrap_i64 (by omega) (by omega)
  rw [hqw] at hq
  have hfw : IntKind.i64.wrap (a * b) = a * b ↔ Fits (a * b) := ⟨fun e => e ▸ hw, fun e => by omega⟩
  have c3 := kept_spec (IntKind.i64.wrap (a * b)) (decide (Fits (a * b))) h
  rw [okN_of (n := a * b) rfl (fun hf => hfw.2 hf)] at c3
  by_cases hf : Fits (a * b)
  · have e1 : (IntKind.i64.wrap (a * b)).tdiv b = a := ht.2 (hfw.2 hf)
    rw [decide_eq_true hf] at c3
    rw [e1] at hq
    repeat' (first | refine S.nilK ?_ | (refine S.op rfl ?_; first | refine R.bin rfl rfl hq ?_ | refine R.bin rfl rfl (by rfl) ?_ | refine S.eqIntSame rfl rfl ?_ | refine R.callQ (by decide) rfl c3 ?_ | refine R.mv rfl ?_ | refine R.pickF rfl rfl ?_ | refine R.extract rfl rfl ?_ | ((first | refine S.eqInt rfl rfl ?_ ?_) <;> intro hlt <;> try (exfalso; omega))) | refine S.seq ?_ | refine S.region ?_ | refine S.condF rfl ?_ | refine RRun.skip ?_)
    apply S.ret rr77
    case hx => repeat (first | exact ResAt.nil | apply ResAt.tmp rfl)
    exact ⟨rfl, rfl⟩
  · have e1 : ¬ (IntKind.i64.wrap (a * b)).tdiv b = a := fun e => hf (hfw.1 (ht.1 e))
    rw [decide_eq_false hf] at c3
    generalize (IntKind.i64.wrap (a * b)).tdiv b = q at hq e1
    repeat' (first | refine S.nilK ?_ | (refine S.op rfl ?_; first | refine R.bin rfl rfl hq ?_ | refine R.bin rfl rfl (by rfl) ?_ | refine R.callQ (by decide) rfl c3 ?_ | refine R.mv rfl ?_ | refine R.pickF rfl rfl ?_ | refine R.extract rfl rfl ?_ | ((first | refine S.eqInt rfl rfl ?_ ?_) <;> intro hlt <;> try (exfalso; omega))) | refine S.seq ?_ | refine S.region ?_ | refine S.condF rfl ?_ | refine RRun.skip ?_)
    apply S.ret rr77
    case hx => repeat (first | exact ResAt.nil | apply ResAt.tmp rfl)
    exact ⟨rfl, rfl⟩
end Go.Proofs.Ytdinnoejipmiiaa

namespace Go.Av.Pa
structure Tok where
  kind : Int
  s : List UInt8
  n : Int
  pos : Int
  deriving DecidableEq
structure Val where
  kind : Int
  n : Int
  s : List UInt8
  deriving DecidableEq
inductive Ex where
  | mk (op : Int) (t nm : List UInt8) (n : Int) (v : Val) (args : List Ex)
def vz : Val := ⟨0, 0, []⟩
def Ex.nil : Ex := .mk 0 [] [] 0 vz []
def lit (v : Val) : Ex := .mk 1 [] [] 0 v []
def opE (op : Int) (l : List Ex) : Ex := .mk op [] [] 0 vz l
structure PS where
  i : Nat
  bat : Int
  be : Int
  d : Nat
  deriving DecidableEq
def bs (s : String) : List UInt8 := s.toUTF8.data.toList
section
variable (l : List Tok) (fin : Int)
def PS.good (st : PS) : Bool := st.be == 0
def atP (st : PS) : Int := match l[st.i]? with
  | some t => t.pos
  | none => fin
def PS.fail (st : PS) (p e : Int) : PS := if st.be = 0 then { st with bat := p, be := e } else st
def wrongP (st : PS) : PS := st.fail (atP l fin st) 200
def isP (st : PS) (s : List UInt8) : Bool := st.good && match l[st.i]? with
  | some t => t.s == s && (t.kind == 1 || t.kind == 4)
  | none => false
def PS.next (st : PS) : PS := { st with i := st.i + 1 }
def takeP (st : PS) (s : List UInt8) : Bool × PS := if isP l st s then (true, st.next) else (false, st)
def needP : PS → List (List UInt8) → PS
  | st, [] => st
  | st, s :: r => needP (if isP l st s then st.next else wrongP l fin st) r
def within (w s : List UInt8) : Bool := (List.range (w.length + 1)).any fun i => (w.drop i).take s.length == s
def words : List UInt8 := bs " create table index int text not null primary key insert into values update set where delete from select join on group by order desc limit for begin read committed atomic snapshot serializable commit rollback to savepoint or and is count sum min max "
def reserved (s : List UInt8) : Bool := within words (32 :: s ++ [32])
def kindP (st : PS) (k : Int) : Option Tok × PS := match l[st.i]? with
  | some t => if st.good && t.kind == k && !(k == 1 && reserved t.s) then (some t, st.next) else (none, st)
  | none => (none, st)
def nameP (st : PS) : List UInt8 × PS := match kindP l st 1 with
  | (some t, st') => (t.s, st')
  | (none, st') => ([], wrongP l fin st')
def levels : List (List (List UInt8 × Int)) := [
  [(bs "or", 18)],
  [(bs "and", 17)],
  [(bs "=", 10), (bs "<>", 11), (bs "<", 12), (bs "<=", 13), (bs ">", 14), (bs ">=", 15)],
  [(bs "+", 5), (bs "-", 6)],
  [(bs "*", 7), (bs "/", 8), (bs "%", 9)]]
def opsP (st : PS) : List (List UInt8 × Int) → Int × PS
  | [] => (0, st)
  | x :: r => if isP l st x.1 then (x.2, st.next) else opsP st r
def operatorP (st : PS) (lv : Nat) : Int × PS := opsP l st (levels.getD lv [])
def enterP (st : PS) (p : Int) : Bool × PS := if st.d = 20 then (false, st.fail p 201) else (true, { st with d := st.d + 1 })
def PS.leave (st : PS) : PS := { st with d := st.d - 1 }
inductive Fn where
  | left (lv : Nat) | below (lv : Nat) | not | compare | minus | primary | inner (p : Int)
def leftLoop (f : PS → Ex × PS) (lv : Nat) : Nat → Ex → PS → Ex × PS
  | 0, e, st => (e, st)
  | m + 1, e, st =>
    if st.good then
      match operatorP l st lv with
      | (op, st') => if op = 0 then (e, st') else
        match f st' with
        | (y, st'') => leftLoop f lv m (opE op [e, y]) st''
    else (e, st)
def aggs : List (List UInt8 × Int) := [(bs "sum", 21), (bs "min", 22), (bs "max", 23)]
def primaryP (inner : Int → PS → Ex × PS) (st : PS) : Ex × PS :=
  let p := atP l fin st
  match kindP l st 2 with
  | (some t, st) => (lit ⟨1, t.n, []⟩, st)
  | (none, st) =>
  match kindP l st 3 with
  | (some t, st) => (lit ⟨2, 0, t.s⟩, st)
  | (none, st) =>
  match kindP l st 1 with
  | (some t, st) =>
    match takeP l st (bs ".") with
    | (true, st) => match nameP l fin st with
      | (nm, st) => (.mk 2 t.s nm 0 vz [], st)
    | (false, st) => (.mk 2 [] t.s 0 vz [], st)
  | (none, st) =>
  match takeP l st (bs "null") with
  | (true, st) => (lit vz, st)
  | (false, st) =>
  match takeP l st (bs "(") with
  | (true, st) => match inner p st with
    | (e, st) => (e, needP l fin st [bs ")"])
  | (false, st) =>
  match takeP l st (bs "count") with
  | (true, st) => (opE 20 [], needP l fin st [bs "(", bs "*", bs ")"])
  | (false, st) =>
  match opsP l st aggs with
  | (op, st) => if op = 0 then (Ex.nil, wrongP l fin st) else
    match inner p (needP l fin st [bs "("]) with
    | (e, st) => (opE op [e], needP l fin st [bs ")"])
def ev : Nat → Fn → PS → Ex × PS
  | 0, _, st => (Ex.nil, st.fail 0 999)
  | n + 1, .left lv, st =>
    match ev n (.below lv) st with
    | (e, st') => leftLoop l (ev n (.below lv)) lv (l.length + 1) e st'
  | n + 1, .below lv, st => if lv = 0 then ev n (.left 1) st else if lv = 1 then ev n .not st else if lv = 3 then ev n (.left 4) st else ev n .minus st
  | n + 1, .not, st =>
    let p := atP l fin st
    match takeP l st (bs "not") with
    | (false, st) => ev n .compare st
    | (true, st) =>
      match enterP st p with
      | (false, st) => (Ex.nil, st)
      | (true, st) => match ev n .not st with
        | (e, st) => (opE 16 [e], st.leave)
  | n + 1, .compare, st =>
    match ev n (.left 3) st with
    | (e, st) =>
      match operatorP l st 2 with
      | (op, st) => if op ≠ 0 then (match ev n (.left 3) st with | (y, st) => (opE op [e, y], st)) else
        match takeP l st (bs "is") with
        | (false, st) => (e, st)
        | (true, st) =>
          match takeP l st (bs "not") with
          | (nt, st) => (if nt then opE 16 [opE 19 [e]] else opE 19 [e], needP l fin st [bs "null"])
  | n + 1, .minus, st =>
    let p := atP l fin st
    match takeP l st (bs "-") with
    | (false, st) => ev n .primary st
    | (true, st) =>
      match enterP st p with
      | (false, st) => (Ex.nil, st)
      | (true, st) => match ev n .minus st with
        | (e, st) => (opE 4 [e], st.leave)
  | n + 1, .primary, st => primaryP l fin (fun p st => ev n (.inner p) st) st
  | n + 1, .inner p, st =>
    match enterP st p with
    | (false, st) => (Ex.nil, st)
    | (true, st) => match ev n (.left 0) st with
      | (e, st) => (e, st.leave)
def exprP (st : PS) : Ex × PS := ev l fin (16 * l.length + 40) (.left 0) st
def expressionP (st0 : PS) : Ex × Int × Int :=
  match exprP l fin st0 with
  | (e, st) =>
    let st := if st.i < l.length then wrongP l fin st else st
    if st.good then (e, 0, 0) else (Ex.nil, st.bat, st.be)
end
section
variable {l : List Tok} {fin : Int}
theorem fail_i (st : PS) (p e : Int) : (st.fail p e).i = st.i := by unfold PS.fail; split <;> rfl
theorem wrong_i (st : PS) : (wrongP l fin st).i = st.i := fail_i _ _ _
theorem isP_lt {st : PS} {s : List UInt8} (h : isP l st s = true) : st.i < l.length := by
  unfold isP at h
  cases hl : l[st.i]? with
  | none => rw [hl] at h; simp at h
  | some t => exact (List.getElem?_eq_some_iff.1 hl).1
theorem take_le (st : PS) (s : List UInt8) (h : st.i ≤ l.length) : st.i ≤ (takeP l st s).2.i ∧ (takeP l st s).2.i ≤ l.length := by
  unfold takeP
  split
  · next hi => exact ⟨Nat.le_succ _, isP_lt hi⟩
  · exact ⟨Nat.le_refl _, h⟩
theorem need_le : ∀ (r : List (List UInt8)) (st : PS), st.i ≤ l.length → st.i ≤ (needP l fin st r).i ∧ (needP l fin st r).i ≤ l.length
  | [], st, h => ⟨Nat.le_refl _, h⟩
  | s :: r, st, h => by
    rw [needP]
    split
    · next hi =>
      have h1 := isP_lt hi
      have := need_le r st.next h1
      exact ⟨Nat.le_trans (Nat.le_succ _) this.1, this.2⟩
    · have := need_le r (wrongP l fin st) (by rw [wrong_i]; exact h)
      rw [wrong_i] at this
      exact this
theorem kind_le (st : PS) (k : Int) (h : st.i ≤ l.length) : st.i ≤ (kindP l st k).2.i ∧ (kindP l st k).2.i ≤ l.length := by
  unfold kindP
  cases hl : l[st.i]? with
  | none => exact ⟨Nat.le_refl _, h⟩
  | some t =>
    have := (List.getElem?_eq_some_iff.1 hl).1
    simp only
    split
    · exact ⟨Nat.le_succ _, this⟩
    · exact ⟨Nat.le_refl _, h⟩
theorem ops_le (st : PS) (h : st.i ≤ l.length) : ∀ r, st.i ≤ (opsP l st r).2.i ∧ (opsP l st r).2.i ≤ l.length
  | [] => ⟨Nat.le_refl _, h⟩
  | x :: r => by
    rw [opsP]
    split
    · next hi => exact ⟨Nat.le_succ _, isP_lt hi⟩
    · exact ops_le st h r
end
end Go.Av.Pa

namespace Go.Av.Pa
variable {l : List Tok} {fin : Int}
def Up (l : List Tok) (st st' : PS) : Prop := st.i ≤ st'.i ∧ st'.i ≤ l.length
theorem Up.refl {st : PS} (h : st.i ≤ l.length) : Up l st st := ⟨Nat.le_refl _, h⟩
theorem Up.trans {a b c : PS} (h1 : Up l a b) (h2 : Up l b c) : Up l a c := ⟨Nat.le_trans h1.1 h2.1, h2.2⟩
theorem Up.eq_i {a b c : PS} (h : Up l a b) (e : c.i = b.i) : Up l a c := ⟨by rw [e]; exact h.1, by rw [e]; exact h.2⟩
theorem take_up (st : PS) (s : List UInt8) (h : st.i ≤ l.length) : Up l st (takeP l st s).2 := take_le st s h
theorem need_up (st : PS) (r : List (List UInt8)) (h : st.i ≤ l.length) : Up l st (needP l fin st r) := need_le r st h
theorem kind_up (st : PS) (k : Int) (h : st.i ≤ l.length) : Up l st (kindP l st k).2 := kind_le st k h
theorem ops_up (st : PS) (r : List (List UInt8 × Int)) (h : st.i ≤ l.length) : Up l st (opsP l st r).2 := ops_le st h r
theorem operator_up (st : PS) (lv : Nat) (h : st.i ≤ l.length) : Up l st (operatorP l st lv).2 := ops_le st h _
theorem name_up (st : PS) (h : st.i ≤ l.length) : Up l st (nameP l fin st).2 := by
  have hk := kind_up (l := l) st 1 h
  unfold nameP
  generalize kindP l st 1 = xx at *
  rcases xx with ⟨_ | t, st'⟩
  · exact hk.eq_i (wrong_i _)
  · exact hk
theorem enter_i (st : PS) (p : Int) : (enterP st p).2.i = st.i := by
  unfold enterP
  split
  · exact fail_i _ _ _
  · rfl
theorem leave_i (st : PS) : st.leave.i = st.i := rfl
theorem loop_up {f : PS → Ex × PS} {lv : Nat} (hf : ∀ st, st.i ≤ l.length → Up l st (f st).2) : ∀ (m : Nat) (e : Ex) (st : PS), st.i ≤ l.length → Up l st (leftLoop l f lv m e st).2
  | 0, e, st, h => Up.refl h
  | m + 1, e, st, h => by
    rw [leftLoop]
    split
    · have h1 := operator_up (l := l) st lv h
      generalize operatorP l st lv = xx at *
      rcases xx with ⟨op, st'⟩
      simp only at h1 ⊢
      split
      · exact h1
      · have h2 := hf st' h1.2
        generalize f st' = xx at *
        rcases xx with ⟨y, st''⟩
        exact (h1.trans h2).trans (loop_up hf m _ st'' h2.2)
    · exact Up.refl h
theorem primary_up {inner : Int → PS → Ex × PS} (hf : ∀ p st, st.i ≤ l.length → Up l st (inner p st).2) (st : PS) (h : st.i ≤ l.length) : Up l st (primaryP l fin inner st).2 := by
  unfold primaryP
  simp only
  have k2 := kind_up (l := l) st 2 h
  generalize kindP l st 2 = xx at *
  rcases xx with ⟨_ | t, s2⟩
  rotate_left
  · exact k2
  have k3 := k2.trans (kind_up (l := l) s2 3 k2.2)
  simp only
  generalize kindP l s2 3 = xx at *
  rcases xx with ⟨_ | t, s3⟩
  rotate_left
  · exact k3
  have k1 := k3.trans (kind_up (l := l) s3 1 k3.2)
  simp only
  generalize kindP l s3 1 = xx at *
  rcases xx with ⟨_ | t, s1⟩
  rotate_left
  · simp only
    have d := k1.trans (take_up (l := l) s1 (bs ".") k1.2)
    generalize takeP l s1 (bs ".") = xx at *
    rcases xx with ⟨_ | _, s4⟩
    · exact d
    · simp only
      exact d.trans (name_up (l := l) (fin := fin) s4 d.2)
  simp only
  have n := k1.trans (take_up (l := l) s1 (bs "null") k1.2)
  generalize takeP l s1 (bs "null") = xx at *
  rcases xx with ⟨_ | _, s4⟩
  rotate_left
  · exact n
  simp only
  have o := n.trans (take_up (l := l) s4 (bs "(") n.2)
  generalize takeP l s4 (bs "(") = xx at *
  rcases xx with ⟨_ | _, s5⟩
  rotate_left
  · simp only
    have i := o.trans (hf (atP l fin st) s5 o.2)
    generalize inner (atP l fin st) s5 = xx at *
    rcases xx with ⟨e, s6⟩
    exact i.trans (need_up s6 _ i.2)
  simp only
  have c := o.trans (take_up (l := l) s5 (bs "count") o.2)
  generalize takeP l s5 (bs "count") = xx at *
  rcases xx with ⟨_ | _, s6⟩
  rotate_left
  · exact c.trans (need_up s6 _ c.2)
  simp only
  have a := c.trans (ops_up (l := l) s6 aggs c.2)
  generalize opsP l s6 aggs = xx at *
  rcases xx with ⟨op, s7⟩
  simp only
  split
  · exact a.eq_i (wrong_i _)
  · have b := a.trans (need_up (l := l) (fin := fin) s7 [bs "("] a.2)
    have i := b.trans (hf (atP l fin st) _ b.2)
    generalize inner (atP l fin st) (needP l fin s7 [bs "("]) = xx at *
    rcases xx with ⟨e, s8⟩
    exact i.trans (need_up s8 _ i.2)
theorem ev_up : ∀ (n : Nat) (fn : Fn) (st : PS), st.i ≤ l.length → Up l st (ev l fin n fn st).2
  | 0, _, st, h => by rw [ev]; exact (Up.refl h).eq_i (fail_i _ _ _)
  | n + 1, fn, st, h => by
    have ih := ev_up n
    cases fn with
    | left lv =>
      rw [ev]
      have h1 := ih (.below lv) st h
      generalize ev l fin n (.below lv) st = xx at *
      rcases xx with ⟨e, s1⟩
      exact h1.trans (loop_up (fun s hs => ih _ s hs) _ e s1 h1.2)
    | below lv =>
      rw [ev]
      repeat' split
      all_goals exact ih _ st h
    | not =>
      rw [ev]
      simp only
      have t := take_up (l := l) st (bs "not") h
      generalize takeP l st (bs "not") = xx at *
      rcases xx with ⟨_ | _, s1⟩
      · exact t.trans (ih _ s1 t.2)
      · simp only
        have e := t.eq_i (enter_i s1 (atP l fin st))
        generalize enterP s1 (atP l fin st) = xx at *
        rcases xx with ⟨_ | _, s2⟩
        · exact e
        · simp only
          have r := e.trans (ih .not s2 e.2)
          generalize ev l fin n .not s2 = xx at *
          rcases xx with ⟨x, s3⟩
          exact r.eq_i (leave_i _)
    | compare =>
      rw [ev]
      have h1 := ih (.left 3) st h
      generalize ev l fin n (.left 3) st = xx at *
      rcases xx with ⟨e, s1⟩
      simp only
      have h2 := h1.trans (operator_up (l := l) s1 2 h1.2)
      generalize operatorP l s1 2 = xx at *
      rcases xx with ⟨op, s2⟩
      simp only
      split
      · have h3 := h2.trans (ih (.left 3) s2 h2.2)
        generalize ev l fin n (.left 3) s2 = xx at *
        rcases xx with ⟨y, s3⟩
        exact h3
      · have h3 := h2.trans (take_up (l := l) s2 (bs "is") h2.2)
        generalize takeP l s2 (bs "is") = xx at *
        rcases xx with ⟨_ | _, s3⟩
        · exact h3
        · simp only
          have h4 := h3.trans (take_up (l := l) s3 (bs "not") h3.2)
          generalize takeP l s3 (bs "not") = xx at *
          rcases xx with ⟨b, s4⟩
          exact h4.trans (need_up s4 _ h4.2)
    | minus =>
      rw [ev]
      simp only
      have t := take_up (l := l) st (bs "-") h
      generalize takeP l st (bs "-") = xx at *
      rcases xx with ⟨_ | _, s1⟩
      · exact t.trans (ih _ s1 t.2)
      · simp only
        have e := t.eq_i (enter_i s1 (atP l fin st))
        generalize enterP s1 (atP l fin st) = xx at *
        rcases xx with ⟨_ | _, s2⟩
        · exact e
        · simp only
          have r := e.trans (ih .minus s2 e.2)
          generalize ev l fin n .minus s2 = xx at *
          rcases xx with ⟨x, s3⟩
          exact r.eq_i (leave_i _)
    | primary =>
      rw [ev]
      exact primary_up (fun p s hs => ih _ s hs) st h
    | inner p =>
      rw [ev]
      have e := (Up.refl h).eq_i (enter_i st p)
      generalize enterP st p = xx at *
      rcases xx with ⟨_ | _, s2⟩
      · exact e
      · simp only
        have r := e.trans (ih (.left 0) s2 e.2)
        generalize ev l fin n (.left 0) s2 = xx at *
        rcases xx with ⟨x, s3⟩
        exact r.eq_i (leave_i _)
end Go.Av.Pa

namespace Go.Av.Pa
variable {l : List Tok} {fin : Int}
def Kept (st st' : PS) : Prop := st.be ≠ 0 → st'.be = st.be ∧ st'.bat = st.bat ∧ st'.i = st.i
theorem Kept.refl (st : PS) : Kept st st := fun _ => ⟨rfl, rfl, rfl⟩
theorem Kept.trans {a b c : PS} (h1 : Kept a b) (h2 : Kept b c) : Kept a c := fun h => by
  obtain ⟨e1, e2, e3⟩ := h1 h
  obtain ⟨f1, f2, f3⟩ := h2 (by rw [e1]; exact h)
  exact ⟨f1.trans e1, f2.trans e2, f3.trans e3⟩
end Go.Av.Pa

namespace Go.Av.Pa
variable {l : List Tok} {fin : Int}
def there (l : List Tok) (i : Nat) (s : List UInt8) : Bool := match l[i]? with
  | some t => t.s == s && (t.kind == 1 || t.kind == 4)
  | none => false
theorem is_there {st : PS} (h : st.be = 0) (s : List UInt8) : isP l st s = there l st.i s := by
  unfold isP there PS.good
  rw [h]
  cases l[st.i]? <;> simp
theorem take_some {st : PS} {s : List UInt8} (h : st.be = 0) (hs : there l st.i s = true) : takeP l st s = (true, st.next) := by
  rw [takeP, is_there h, hs]; rfl
def PS.up (st : PS) (k : Nat) : PS := { st with i := st.i + k }
def Ans (r : Ex × PS) (x : Ex) (st : PS) (k : Nat) : Prop := r = (x, st.up k) ∨ r.2.be = 201
def NoOp (l : List Tok) (i lv : Nat) : Prop := ∀ x ∈ levels.getD lv [], there l i x.1 = false
structure Ends (l : List Tok) (i : Nat) : Prop where
  ops : ∀ lv, NoOp l i lv
  is : there l i (bs "is") = false
structure Begins (l : List Tok) (i : Nat) : Prop where
  minus : there l i (bs "-") = false
  not : there l i (bs "not") = false
end Go.Av.Pa

namespace Go.Av.Pa
variable {l : List Tok} {fin : Int}
inductive Pc where
  | word (s : List UInt8) | mark (s : List UInt8) | num (n : Int) | quo (s : List UInt8)
  deriving DecidableEq
def Pc.fits : Pc → Tok → Prop
  | .word s, t => t.kind = 1 ∧ t.s = s
  | .mark s, t => t.kind = 4 ∧ t.s = s
  | .num n, t => t.kind = 2 ∧ t.n = n
  | .quo s, t => t.kind = 3 ∧ t.s = s
def Pc.txt : Pc → Option (List UInt8)
  | .word s => some s
  | .mark s => some s
  | _ => none
def At (l : List Tok) (i : Nat) (p : Pc) : Prop := ∃ t, l[i]? = some t ∧ p.fits t
def Fit (l : List Tok) : List Pc → Nat → Prop
  | [], _ => True
  | p :: ps, i => At l i p ∧ Fit l ps (i + 1)
theorem Fit.app : ∀ {a b : List Pc} {i : Nat}, Fit l (a ++ b) i → Fit l a i ∧ Fit l b (i + a.length)
  | [], b, i, h => ⟨trivial, h⟩
  | p :: a, b, i, h => by
    obtain ⟨h1, h2⟩ := Fit.app (a := a) h.2
    refine ⟨⟨h.1, h1⟩, ?_⟩
    have e : i + (p :: a).length = i + 1 + a.length := by simp [Nat.add_comm, Nat.add_left_comm]
    rw [e]; exact h2
theorem At.there {i : Nat} {p : Pc} (h : At l i p) (s : List UInt8) : there l i s = (p.txt == some s) := by
  obtain ⟨t, h1, h2⟩ := h
  unfold Pa.there
  rw [h1]
  cases p with
  | word w => obtain ⟨k, rfl⟩ := h2; simp [Pc.txt, k]
  | mark w => obtain ⟨k, rfl⟩ := h2; simp [Pc.txt, k]
  | num n => obtain ⟨k, -⟩ := h2; simp [Pc.txt, k]
  | quo w => obtain ⟨k, -⟩ := h2; simp [Pc.txt, k]
theorem At.lt {i : Nat} {p : Pc} (h : At l i p) : i < l.length := by
  obtain ⟨t, h1, -⟩ := h
  exact (List.getElem?_eq_some_iff.1 h1).1
def Pc.kind : Pc → Int
  | .word _ => 1 | .mark _ => 4 | .num _ => 2 | .quo _ => 3
def closeP : Pc := .mark (bs ")")
end Go.Av.Pa

namespace Go.Av.Pa
variable {l : List Tok} {fin : Int}
def betw : List (Int × Nat × Pc) := [(18, 0, .word (bs "or")), (17, 1, .word (bs "and")), (10, 2, .mark (bs "=")), (11, 2, .mark (bs "<>")), (12, 2, .mark (bs "<")), (13, 2, .mark (bs "<=")), (14, 2, .mark (bs ">")), (15, 2, .mark (bs ">=")),
  (5, 3, .mark (bs "+")), (6, 3, .mark (bs "-")), (7, 4, .mark (bs "*")), (8, 4, .mark (bs "/")), (9, 4, .mark (bs "%"))]
def lowL (c : UInt8) : Bool := c == 95 || (decide (97 ≤ c.toNat) && decide (c.toNat ≤ 122))
def lowW (c : UInt8) : Bool := lowL c || (decide (48 ≤ c.toNat) && decide (c.toNat ≤ 57))
def goodName (s : List UInt8) : Bool := match s with
  | [] => false
  | c :: r => lowL c && (c :: r).all lowW
structure Name (s : List UInt8) : Prop where
  free : reserved s = false
  word : s ≠ bs "-"
  good : goodName s = true
inductive Told : Ex → List Pc → Prop
  | int (n : Int) : 0 ≤ n → Told (lit ⟨1, n, []⟩) [.num n]
  | text (s : List UInt8) : Told (lit ⟨2, 0, s⟩) [.quo s]
  | null : Told (lit vz) [.word (bs "null")]
  | col (nm : List UInt8) : Name nm → Told (.mk 2 [] nm 0 vz []) [.word nm]
  | qcol (t nm : List UInt8) : Name t → Name nm → Told (.mk 2 t nm 0 vz []) [.word t, .mark (bs "."), .word nm]
  | bin (op : Int) (lv : Nat) (p : Pc) (a b : Ex) (pa pb : List Pc) : (op, lv, p) ∈ betw → Told a pa → Told b pb → Told (opE op [a, b]) (.mark (bs "(") :: pa ++ p :: pb ++ [closeP])
  | neg (a : Ex) (pa : List Pc) : Told a pa → Told (opE 4 [a]) (.mark (bs "(") :: .mark (bs "-") :: pa ++ [closeP])
  | not (a : Ex) (pa : List Pc) : Told a pa → Told (opE 16 [a]) (.mark (bs "(") :: .word (bs "not") :: pa ++ [closeP])
  | isnull (a : Ex) (pa : List Pc) : Told a pa → Told (opE 19 [a]) (.mark (bs "(") :: pa ++ [.word (bs "is"), .word (bs "null"), closeP])
  | count : Told (opE 20 []) [.word (bs "count"), .mark (bs "("), .mark (bs "*"), closeP]
  | agg (s : List UInt8) (op : Int) (a : Ex) (pa : List Pc) : (s, op) ∈ aggs → Told a pa → Told (opE op [a]) (.word s :: .mark (bs "(") :: pa ++ [closeP])
end Go.Av.Pa

namespace Go.Av.Pa
variable {l : List Tok} {fin : Int}
structure Clean (l : List Tok) : Prop where
  num : ∀ t ∈ l, t.kind = 2 → 0 ≤ t.n
  word : ∀ t ∈ l, t.kind = 1 → t.s ≠ bs "-"
  good : ∀ t ∈ l, t.kind = 1 → goodName t.s = true
def TD (x : Ex) : Prop := ∃ ps, Told x ps
theorem TD.bin {op : Int} {lv : Nat} {p : Pc} {a b : Ex} (h : (op, lv, p) ∈ betw) (ha : TD a) (hb : TD b) : TD (opE op [a, b]) := by
  obtain ⟨pa, ha⟩ := ha
  obtain ⟨pb, hb⟩ := hb
  exact ⟨_, .bin op lv p a b pa pb h ha hb⟩
end Go.Av.Pa

namespace Go.Av.Pa
variable {l : List Tok} {fin : Int}
theorem not_not {n : Nat} {st : PS} {x : Ex} {k : Nat} (h0 : st.be = 0) (hm : there l st.i (bs "not") = true) (h : Ans (ev l fin n .not { st with i := st.i + 1, d := st.d + 1 }) x { st with i := st.i + 1, d := st.d + 1 } k) : Ans (ev l fin (n + 1) .not st) (opE 16 [x]) st (1 + k) := by
  rw [ev]
  simp only
  rw [take_some h0 hm]
  simp only
  by_cases hd : st.d = 20
  · have e : enterP st.next (atP l fin st) = (false, st.next.fail (atP l fin st) 201) := by
      unfold enterP
      rw [if_pos (show st.next.d = 20 from hd)]
    rw [e]
    refine .inr ?_
    show (st.next.fail (atP l fin st) 201).be = 201
    unfold PS.fail
    rw [if_pos (show st.next.be = 0 from h0)]
  · have e : enterP st.next (atP l fin st) = (true, { st with i := st.i + 1, d := st.d + 1 }) := by
      unfold enterP
      rw [if_neg (show ¬ st.next.d = 20 from hd)]
      rfl
    rw [e]
    simp only
    rcases h with h | h
    · rw [h]
      refine .inl ?_
      unfold PS.up PS.leave
      simp [Nat.add_assoc]
    · generalize ev l fin n .not { st with i := st.i + 1, d := st.d + 1 } = r at *
      exact .inr h
end Go.Av.Pa

namespace Go.Proofs.Ytdinnoejipmiiaa
open Go.Av
abbrev Tok := Pa.Tok
def _root_.Go.Av.Pa.Tok.cells (t : Tok) : List AV := [i64 t.kind, str t.s, i64 t.n, i64 t.pos]
theorem tells_digit : Tells 66 isDigit := ⟨rfl, digit_spec⟩
theorem tells_word : Tells 75 isWord := ⟨rfl, word1_spec⟩
theorem tells_blank : Tells 56 isBlank := ⟨rfl, blank_spec⟩
def numStep (o : Option Int) (c : UInt8) : Option Int :=
  match o with
  | none => none
  | some n => if Fits (n * 10) then (if Fits (n * 10 + ((c.toNat : Int) - 48)) then some (n * 10 + ((c.toNat : Int) - 48)) else none) else none
theorem isDigit_spec {c : UInt8} (h : isDigit c = true) : 48 ≤ c.toNat ∧ c.toNat ≤ 57 := of_decide_eq_true h
def r67l0 : RCode :=
  (.seq (.region [
    ⟨(some 13), none, .act, .bin .lss (.tmp 12) (.tmp 11)⟩])
  (.seq (.cond (.tmp 13)
   .skip
   (.exit 0))
  (.seq (.block 1
   (.seq (.region [
     ⟨(some 14), none, .act, .indexAddr 1 (.tmp 10) (.tmp 12)⟩,
     ⟨(some 15), none, .act, .load false 1 (.tmp 14)⟩,
     ⟨(some 7), none, .act, .mv (.tmp 15)⟩])
   (.seq (.seq (.region [
     ⟨(some 16), none, .act, .mv (.tmp 5)⟩])
   (.cond (.tmp 16)
    (.region [
      ⟨(some 18), none, .act, .mv (.tmp 4)⟩,
      ⟨(some 19), none, .act, .call 77 [(.tmp 18), (.const (.int .i64 10))]⟩,
      ⟨(some 17), none, .act, .mv (.tmp 19)⟩,
      ⟨(some 20), none, .act, .extract (.tmp 17) 0⟩,
      ⟨(some 21), none, .act, .extract (.tmp 17) 1⟩,
      ⟨(some 4), none, .act, .mv (.tmp 20)⟩,
      ⟨(some 5), none, .act, .mv (.tmp 21)⟩])
    .skip))
   (.seq (.region [
     ⟨(some 22), none, .act, .mv (.tmp 5)⟩])
   (.cond (.tmp 22)
    (.region [
      ⟨(some 24), none, .act, .mv (.tmp 4)⟩,
      ⟨(some 25), none, .act, .mv (.tmp 7)⟩,
      ⟨(some 26), none, .act, .bin .sub (.tmp 25) (.const (.int .u8 48))⟩,
      ⟨(some 27), none, .act, .convInt .i64 (.tmp 26)⟩,
      ⟨(some 28), none, .act, .call 78 [(.tmp 24), (.tmp 27)]⟩,
      ⟨(some 23), none, .act, .mv (.tmp 28)⟩,
      ⟨(some 29), none, .act, .extract (.tmp 23) 0⟩,
      ⟨(some 30), none, .act, .extract (.tmp 23) 1⟩,
      ⟨(some 4), none, .act, .mv (.tmp 29)⟩,
      ⟨(some 5), none, .act, .mv (.tmp 30)⟩])
    .skip)))))
  (.region [
    ⟨(some 31), none, .act, .bin .add (.tmp 12) (.const (.int .i64 1))⟩,
    ⟨(some 12), none, .act, .mv (.tmp 31)⟩]))))
def r67 : RCode :=
  (.seq (.region [
    ⟨(some 2), none, .act, .alloc [(.int .i64 0), (.string ⟨#[]⟩), (.int .i64 0), (.int .i64 0)]⟩,
    ⟨(some 3), none, .act, .mv (.const (.bool false))⟩])
  (.seq (.region [
    ⟨(some 4), none, .act, .mv (.const (.int .i64 0))⟩,
    ⟨(some 5), none, .act, .mv (.const (.bool true))⟩])
  (.seq (.seq (.region [
    ⟨(some 8), none, .act, .mv (.tmp 0)⟩,
    ⟨(some 9), none, .act, .call 55 [(.tmp 8), (.func 66)]⟩,
    ⟨(some 10), none, .act, .toBytes (.tmp 9)⟩,
    ⟨(some 11), none, .act, .len (.tmp 10)⟩,
    ⟨(some 12), none, .act, .mv (.const (.int .i64 0))⟩])
  (.block 0
   (.loop r67l0)))
  (.seq (.region [
    ⟨(some 32), none, .act, .mv (.tmp 4)⟩,
    ⟨(some 33), none, .act, .build [(.int .i64 0), (.string ⟨#[]⟩), (.int .i64 0), (.int .i64 0)] [(0, 1, (.const (.int .i64 2))), (2, 1, (.tmp 32))]⟩,
    ⟨(some 34), none, .act, .mv (.tmp 5)⟩,
    ⟨none, none, .act, .store 4 (.tmp 2) (.tmp 33)⟩,
    ⟨(some 3), none, .act, .mv (.tmp 34)⟩])
  .ret))))
theorem res67 : ∃ c, Try.f67.body = some c ∧ resCode Try.prog 35 c = some r67 := ⟨_, rfl, by kernel_rfl⟩
theorem rr67 : resRes Try.prog Try.f67.results.toList = some [.cell 2 true 4, .tmp 3] := by kernel_rfl
theorem number_loop (w : List UInt8) (hw : ∀ c ∈ w, isDigit c = true) (hl : w.length ≤ 4611686018427387904) (b b2 : Nat) (h : AHeap) (k : List RT) (Q : AV → AHeap → Prop) : ∀ (m j : Nat) (o : Option Int), j + m = w.length → (∀ n, o = some n → Fits n) →
    RRun Try.prog Try.f67 35 k (Env.get [(2, ptr b2), (4, i64 (((w.drop j).foldl numStep o).getD 0)), (5, bl ((w.drop j).foldl numStep o).isSome)]) h Q →
    RRun Try.prog Try.f67 35 (.inLoop r67l0 :: .inBlock 0 :: k) (Env.get [(12, i64 j), (11, i64 w.length), (10, .sl 1 (Go.Av.byteCells w) .ro), (2, ptr b2), (4, i64 (o.getD 0)), (5, bl o.isSome)]) h Q := by
  intro m
  induction m with
  | zero =>
    intro j o hj hf hk
    have hd : w.drop j = [] := by simp; omega
    rw [hd] at hk
    refine RRun.inLoop ?_
    repeat' (first | refine S.nilK ?_ | (refine S.op rfl ?_; first | ((first | refine S.lss rfl rfl ?_ ?_) <;> intro hlt <;> try (exfalso; omega))) | refine S.seq ?_ | refine S.region ?_ | refine S.condF rfl ?_ | refine RRun.exit rfl ?_)
    exact S.keep [2, 4, 5] rfl hk
  | succ m ih =>
    intro j o hj hf hk
    have hlt : j < w.length := by omega
    have hd : w.drop j = w[j] :: w.drop (j + 1) := List.drop_eq_getElem_cons hlt
    have hg : (Go.Av.byteCells w)[((j : Nat) : Int).toNat]? = some (Go.Av.byteCell w[j]) := by simp [Go.Av.byteCells, hlt]
    rw [hd, List.foldl_cons] at hk
    obtain ⟨h1, h2⟩ := isDigit_spec (hw w[j] (List.getElem_mem hlt))
    have fin : ∀ o', numStep o w[j] = o' → (∀ n, o' = some n → Fits n) → RRun Try.prog Try.f67 35 (.inLoop r67l0 :: .inBlock 0 :: k) (Env.get [(12, i64 (j + 1 : Nat)), (11, i64 w.length), (10, .sl 1 (Go.Av.byteCells w) .ro), (2, ptr b2), (4, i64 (o'.getD 0)), (5, bl o'.isSome)]) h Q := fun o' e hf' =>
      ih (j + 1) o' (by omega) hf' (by subst e; exact hk)
    refine RRun.inLoop ?_
    cases o with
    | none =>
      have f1 := fin none rfl (fun n e => by cases e)
      repeat' (first | refine S.nilK ?_ | (refine S.op rfl ?_; first | refine R.indexAddr rfl rfl (by omega) hg ?_ | refine R.mv rfl ?_ | refine R.loadR rfl rfl ?_ | refine S.addI rfl rfl (by omega) ?_ | ((first | refine S.lss rfl rfl ?_ ?_) <;> intro hlt <;> try (exfalso; omega))) | refine S.seq ?_ | refine S.region ?_ | refine S.condT rfl ?_ | refine S.condF rfl ?_ | refine RRun.skip ?_ | refine RRun.block ?_ | refine RRun.inBlock ?_)
      show RRun _ _ _ _ (Env.get ((12, i64 ((j : Int) + 1)) :: _)) _ _
      rw [show ((j : Int) + 1) = ((j + 1 : Nat) : Int) by omega]
      exact S.keep [12, 11, 10, 2, 4, 5] rfl f1
    | some n =>
      have hn := hf n rfl
      have c1 := mul_spec n 10 hn (by decide) h
      by_cases g1 : Fits (n * 10)
      · rw [show okN (n * 10) = .tu [i64 (n * 10), bl true] by simp only [okN, if_pos g1, decide_eq_true g1]] at c1
        have c2 := add_spec (n * 10) ((w[j].toNat : Int) - 48) g1 (by omega) h
        by_cases g2 : Fits (n * 10 + ((w[j].toNat : Int) - 48))
        · rw [show okN (n * 10 + ((w[j].toNat : Int) - 48)) = .tu [i64 (n * 10 + ((w[j].toNat : Int) - 48)), bl true] by simp only [okN, if_pos g2, decide_eq_true g2]] at c2
          have f1 := fin (some (n * 10 + ((w[j].toNat : Int) - 48))) (by simp only [numStep, if_pos g1, if_pos g2]) (fun m e => by cases e; exact g2)
          repeat' (first | refine S.nilK ?_ | (refine S.op rfl ?_; first | refine R.indexAddr rfl rfl (by omega) hg ?_ | refine R.callQ (by decide) rfl c1 ?_ | refine R.callQ (by decide) rfl c2 ?_ | refine sub48 h1 h2 rfl ?_ | refine conv8 rfl (by omega) ?_ | refine R.mv rfl ?_ | refine R.loadR rfl rfl ?_ | refine S.addI rfl rfl (by omega) ?_ | refine R.extract rfl rfl ?_ | ((first | refine S.lss rfl rfl ?_ ?_) <;> intro hlt <;> try (exfalso; omega))) | refine S.seq ?_ | refine S.region ?_ | refine S.condT rfl ?_ | refine RRun.skip ?_ | refine RRun.block ?_ | refine RRun.inBlock ?_)
          show RRun _ _ _ _ (Env.get ((12, i64 ((j : Int) + 1)) :: _)) _ _
          rw [show ((j : Int) + 1) = ((j + 1 : Nat) : Int) by omega]
          exact S.keep [12, 11, 10, 2, 4, 5] rfl f1
        · rw [show okN (n * 10 + ((w[j].toNat : Int) - 48)) = .tu [i64 0, bl false] by simp only [okN, if_neg g2, decide_eq_false g2]] at c2
          have f1 := fin none (by simp only [numStep, if_pos g1, if_neg g2]) (fun m e => by cases e)
          repeat' (first | refine S.nilK ?_ | (refine S.op rfl ?_; first | refine R.indexAddr rfl rfl (by omega) hg ?_ | refine R.callQ (by decide) rfl c1 ?_ | refine R.callQ (by decide) rfl c2 ?_ | refine sub48 h1 h2 rfl ?_ | refine conv8 rfl (by omega) ?_ | refine R.mv rfl ?_ | refine R.loadR rfl rfl ?_ | refine S.addI rfl rfl (by omega) ?_ | refine R.extract rfl rfl ?_ | ((first | refine S.lss rfl rfl ?_ ?_) <;> intro hlt <;> try (exfalso; omega))) | refine S.seq ?_ | refine S.region ?_ | refine S.condT rfl ?_ | refine RRun.skip ?_ | refine RRun.block ?_ | refine RRun.inBlock ?_)
          show RRun _ _ _ _ (Env.get ((12, i64 ((j : Int) + 1)) :: _)) _ _
          rw [show ((j : Int) + 1) = ((j + 1 : Nat) : Int) by omega]
          exact S.keep [12, 11, 10, 2, 4, 5] rfl f1
      · rw [show okN (n * 10) = .tu [i64 0, bl false] by simp only [okN, if_neg g1, decide_eq_false g1]] at c1
        have f1 := fin none (by simp only [numStep, if_neg g1]) (fun m e => by cases e)
        repeat' (first | refine S.nilK ?_ | (refine S.op rfl ?_; first | refine R.indexAddr rfl rfl (by omega) hg ?_ | refine R.callQ (by decide) rfl c1 ?_ | refine R.mv rfl ?_ | refine R.loadR rfl rfl ?_ | refine S.addI rfl rfl (by omega) ?_ | refine R.extract rfl rfl ?_ | ((first | refine S.lss rfl rfl ?_ ?_) <;> intro hlt <;> try (exfalso; omega))) | refine S.seq ?_ | refine S.region ?_ | refine S.condT rfl ?_ | refine S.condF rfl ?_ | refine RRun.skip ?_ | refine RRun.block ?_ | refine RRun.inBlock ?_)
        show RRun _ _ _ _ (Env.get ((12, i64 ((j : Int) + 1)) :: _)) _ _
        rw [show ((j : Int) + 1) = ((j + 1 : Nat) : Int) by omega]
        exact S.keep [12, 11, 10, 2, 4, 5] rfl f1
def digits (t : List UInt8) : List UInt8 := t.takeWhile isDigit
def numO (t : List UInt8) : Option Int := (digits t).foldl numStep (some 0)
theorem number_spec (s : List UInt8) (hs : s.length ≤ 4611686018427387904) (p i : Nat) (hi : i ≤ s.length) (h : AHeap) (hp : h p = some (.box (cut s i))) :
    ACalls Try.prog 67 [ptr p] h (fun x h' => x = .tu [.ag (Pa.Tok.cells ⟨2, [], (numO (s.drop i)).getD 0, 0⟩), bl (numO (s.drop i)).isSome] ∧ h' = h.set p (.box (cut s (i + (digits (s.drop i)).length)))) := by
  obtain ⟨c, hc1, hc2⟩ := res67
  refine ACalls.weak (ACalls.enter Try.func67 hc1 Try.ntmps67 hc2 (Nat.le_of_ble_eq_true rfl) rfl ?_)
  have hlen : (digits (s.drop i)).length ≤ s.length - i := by
    have := (List.takeWhile_prefix (l := s.drop i) isDigit).length_le
    simp at this; exact this
  repeat' (first | refine S.nilK ?_ | (refine S.op rfl ?_; first | refine callS rfl rfl (run_spec tells_digit s hs p i hi _ (by (repeat' (first | assumption | refine AHeap.get_fresh ‹_› ?_)); first | done | fail)) ?_ | refine S.toBytesS rfl (by simp only [maxLen]; show (digits _).length ≤ _; omega) ?_ | refine R.mv rfl ?_ | refine R.len rfl ?_ | refine R.alloc rfl (fun b hb => ?_)) | refine S.seq ?_ | refine S.region ?_ | refine RRun.block ?_)
  revert b hb; intro b2 hb2
  refine RRun.loopIn (S.keep [12, 11, 10, 2, 4, 5] rfl ?_)
  rw [Go.Av.len_bytes]
  refine number_loop (digits (s.drop i)) (List.all_eq_true.1 List.all_takeWhile) (by omega) p b2 _ _ _ (digits (s.drop i)).length 0 (some 0) (by omega) (fun n e => by cases e; decide) ?_
  repeat' (first | refine S.nilK ?_ | (refine S.op rfl ?_; first | refine R.mv rfl ?_ | refine R.build rfl rfl ?_) | (refine S.op0 rfl ?_; first | refine S.store rfl rfl (by (repeat' (first | exact AHeap.set_same _ _ _ | refine AHeap.so ?_ ?_ | exact AHeap.n4 ‹_› ‹_›)); first | done | fail) rfl rfl rfl (by rfl) rfl ?_) | refine S.seq ?_ | refine S.region ?_)
  apply S.ret rr67
  case hx => repeat (first | exact ResAt.nil | apply ResAt.tmp rfl | apply ResAt.cellA rfl (by (repeat' (first | exact AHeap.set_same _ _ _)); first | done | fail) (by rfl))
  exact ⟨_, _, .refl _, (by repeat (first | exact AHeap.le.refl _ | refine AHeap.le.set ?_ _ (by (repeat' (first | assumption | refine AHeap.so ?_ ?_ | exact AHeap.n4 ‹_› ‹_›)); first | done | fail) | refine AHeap.le.both ?_ _ _)), rfl, rfl⟩
def r65l0 : RCode :=
  (.seq (.region [
    ⟨(some 12), none, .act, .bin .lss (.tmp 11) (.tmp 10)⟩])
  (.seq (.cond (.tmp 12)
   .skip
   (.exit 0))
  (.seq (.block 1
   (.seq (.region [
     ⟨(some 13), none, .act, .mv (.tmp 11)⟩,
     ⟨(some 14), none, .act, .indexAddr 1 (.tmp 9) (.tmp 11)⟩,
     ⟨(some 15), none, .act, .load false 1 (.tmp 14)⟩,
     ⟨(some 4), none, .act, .mv (.tmp 13)⟩,
     ⟨(some 5), none, .act, .mv (.tmp 15)⟩])
   (.region [
     ⟨(some 16), none, .act, .mv (.tmp 3)⟩,
     ⟨(some 17), none, .act, .mv (.tmp 4)⟩,
     ⟨(some 18), none, .act, .mv (.tmp 5)⟩,
     ⟨(some 19), none, .act, .call 76 [(.tmp 18)]⟩,
     ⟨(some 20), none, .act, .indexAddr 1 (.tmp 16) (.tmp 17)⟩,
     ⟨none, none, .act, .store 1 (.tmp 20) (.tmp 19)⟩])))
  (.region [
    ⟨(some 21), none, .act, .bin .add (.tmp 11) (.const (.int .i64 1))⟩,
    ⟨(some 11), none, .act, .mv (.tmp 21)⟩]))))
def r65 : RCode :=
  (.seq (.region [
    ⟨(some 2), none, .act, .alloc [(.int .i64 0), (.string ⟨#[]⟩), (.int .i64 0), (.int .i64 0)]⟩])
  (.seq (.region [
    ⟨(some 6), none, .act, .mv (.tmp 0)⟩,
    ⟨(some 7), none, .act, .call 55 [(.tmp 6), (.func 75)]⟩,
    ⟨(some 8), none, .act, .toBytes (.tmp 7)⟩,
    ⟨(some 3), none, .act, .mv (.tmp 8)⟩])
  (.seq (.seq (.region [
    ⟨(some 9), none, .act, .mv (.tmp 3)⟩,
    ⟨(some 10), none, .act, .len (.tmp 9)⟩,
    ⟨(some 11), none, .act, .mv (.const (.int .i64 0))⟩])
  (.block 0
   (.loop r65l0)))
  (.seq (.region [
    ⟨(some 22), none, .act, .mv (.tmp 3)⟩,
    ⟨(some 23), none, .act, .toStr (.tmp 22)⟩,
    ⟨(some 24), none, .act, .build [(.int .i64 0), (.string ⟨#[]⟩), (.int .i64 0), (.int .i64 0)] [(0, 1, (.const (.int .i64 1))), (1, 1, (.tmp 23))]⟩,
    ⟨none, none, .act, .store 4 (.tmp 2) (.tmp 24)⟩])
  .ret))))
theorem res65 : ∃ c, Try.f65.body = some c ∧ resCode Try.prog 25 c = some r65 := ⟨_, rfl, by kernel_rfl⟩
theorem rr65 : resRes Try.prog Try.f65.results.toList = some [.cell 2 true 4] := by kernel_rfl
theorem word_loop (w : List UInt8) (hl : w.length ≤ 4611686018427387904) (r cap b2 : Nat) (sp : List AV) (k : List RT) (Q : AV → AHeap → Prop) : ∀ (m j : Nat) (h : AHeap), j + m = w.length → h r = some (.row ((w.take j).map (fun c => u8 (small c)) ++ (w.drop j).map u8 ++ sp)) →
    RRun Try.prog Try.f65 25 k (Env.get [(2, ptr b2), (3, slAt r 0 w.length cap)]) (h.set r (.row (w.map (fun c => u8 (small c)) ++ sp))) Q →
    RRun Try.prog Try.f65 25 (.inLoop r65l0 :: .inBlock 0 :: k) (Env.get [(11, i64 j), (10, i64 w.length), (9, slAt r 0 w.length cap), (2, ptr b2), (3, slAt r 0 w.length cap)]) h Q := by
  intro m
  induction m with
  | zero =>
    intro j h hj hr hk
    have hd : w.drop j = [] := by simp; omega
    have ht : w.take j = w := List.take_of_length_le (by omega)
    rw [hd, ht, List.map_nil, List.append_nil] at hr
    rw [AHeap.set_eq h hr] at hk
    refine RRun.inLoop ?_
    repeat' (first | refine S.nilK ?_ | (refine S.op rfl ?_; first | ((first | refine S.lss rfl rfl ?_ ?_) <;> intro hlt <;> try (exfalso; omega))) | refine S.seq ?_ | refine S.region ?_ | refine S.condF rfl ?_ | refine RRun.exit rfl ?_)
    exact S.keep [2, 3] rfl hk
  | succ m ih =>
    intro j h hj hr hk
    have hlt : j < w.length := by omega
    have hd : w.drop j = w[j] :: w.drop (j + 1) := List.drop_eq_getElem_cons hlt
    have ht : w.take (j + 1) = w.take j ++ [w[j]] := by rw [List.take_add_one]; simp [hlt]
    have htl : (w.take j).length = j := by simp; omega
    have hld : loadAV false 1 (((w.take j).map (fun c => u8 (small c)) ++ (w.drop j).map u8 ++ sp).drop (0 + ((j : Nat) : Int).toNat * 1)) = some (u8 w[j]) := by
      have e : 0 + ((j : Nat) : Int).toNat * 1 = ((w.take j).map (fun c => u8 (small c))).length := by simp; omega
      rw [e, List.append_assoc, List.drop_left, hd]
      rfl
    have hset : ((w.take j).map (fun c => u8 (small c)) ++ (w.drop j).map u8 ++ sp).set (0 + ((j : Nat) : Int).toNat * 1) (u8 (small w[j])) = (w.take (j + 1)).map (fun c => u8 (small c)) ++ (w.drop (j + 1)).map u8 ++ sp := by
      have e : 0 + ((j : Nat) : Int).toNat * 1 = ((w.take j).map (fun c => u8 (small c))).length := by simp; omega
      rw [e, List.append_assoc, List.set_append_right _ _ (Nat.le_refl _), Nat.sub_self, hd, ht, List.map_cons, List.cons_append, List.set_cons_zero, List.map_append, List.map_cons, List.map_nil]
      simp only [List.append_assoc, List.cons_append, List.nil_append]
    have hfit : 0 + ((j : Nat) : Int).toNat * 1 < ((w.take j).map (fun c => u8 (small c)) ++ (w.drop j).map u8 ++ sp).length := by simp; omega
    have c1 := small_spec w[j] h
    refine RRun.inLoop ?_
    repeat' (first | (refine S.op0 rfl (R.storeRow rfl rfl hr rfl rfl hfit ?_)) | refine S.nilK ?_ | (refine S.op rfl ?_; first | refine R.indexAddrV rfl rfl (by omega) (by omega) ?_ | refine R.loadRow (by decide) rfl hr hld ?_ | refine R.callQ (by decide) rfl c1 ?_ | refine R.mv rfl ?_ | refine S.addI rfl rfl (by omega) ?_ | ((first | refine S.lss rfl rfl ?_ ?_) <;> intro hlt <;> try (exfalso; omega))) | refine S.seq ?_ | refine S.region ?_ | refine S.condT rfl ?_ | refine RRun.skip ?_ | refine RRun.block ?_ | refine RRun.inBlock ?_)
    rw [hset, show ((j : Int) + 1) = ((j + 1 : Nat) : Int) by omega]
    refine S.keep [11, 10, 9, 2, 3] rfl ?_
    refine ih (j + 1) _ (by omega) (AHeap.set_same _ _ _) ?_
    rw [AHeap.set_set]
    exact hk
def wordOf (t : List UInt8) : List UInt8 := t.takeWhile isWord
theorem word_spec (s : List UInt8) (hs : s.length ≤ 4611686018427387904) (p i : Nat) (hi : i ≤ s.length) (h : AHeap) (hp : h p = some (.box (cut s i))) :
    ACalls Try.prog 65 [ptr p] h (fun x h' => x = .ag (Pa.Tok.cells ⟨1, (wordOf (s.drop i)).map small, 0, 0⟩) ∧ h' = h.set p (.box (cut s (i + (wordOf (s.drop i)).length)))) := by
  obtain ⟨c, hc1, hc2⟩ := res65
  refine ACalls.weak (ACalls.enter Try.func65 hc1 Try.ntmps65 hc2 (Nat.le_of_ble_eq_true rfl) rfl ?_)
  have hlen : (wordOf (s.drop i)).length ≤ s.length - i := by
    have := (List.takeWhile_prefix (l := s.drop i) isWord).length_le
    simp at this; exact this
  repeat' (first | refine S.nilK ?_ | (refine S.op rfl ?_; first | refine callS rfl rfl (run_spec tells_word s hs p i hi _ (by (repeat' (first | assumption | refine AHeap.get_fresh ‹_› ?_)); first | done | fail)) ?_ | refine R.toBytesO (l := wordOf (s.drop i)) rfl rfl (fun r cap hr hcap => ?_) | refine R.mv rfl ?_ | refine R.lenA rfl ?_ | refine R.alloc rfl (fun b hb => ?_)) | refine S.seq ?_ | refine S.region ?_ | refine RRun.block ?_)
  refine RRun.loopIn (S.keep [11, 10, 9, 2, 3] rfl ?_)
  refine word_loop (wordOf (s.drop i)) (by omega) r cap b _ _ _ (wordOf (s.drop i)).length 0 _ (by omega) (AHeap.set_same _ _ _) ?_
  rw [AHeap.set_set]
  have hr1 := AHeap.set_same ((h.set b (.box [i64 0, str [], i64 0, i64 0])).set p (.box (cut s (i + (wordOf (s.drop i)).length)))) r (.row ((wordOf (s.drop i)).map (fun c => u8 (small c)) ++ List.replicate (cap - (wordOf (s.drop i)).length) .any))
  repeat' (first | refine S.nilK ?_ | (refine S.op rfl ?_; first | refine R.toStrRow (l := (wordOf (s.drop i)).map small) (by decide) rfl hr1 (by simp) (by simp) ?_ | refine R.mv rfl ?_ | refine R.build rfl rfl ?_) | (refine S.op0 rfl ?_; first | refine S.store rfl rfl (by (repeat' (first | exact AHeap.set_same _ _ _ | refine AHeap.get_fresh ‹_› ?_ | refine AHeap.so ?_ ?_ | exact AHeap.n4 ‹_› ‹_›)); first | done | fail) rfl rfl rfl (by rfl) rfl ?_) | refine S.seq ?_ | refine S.region ?_)
  apply S.ret rr65
  case hx => repeat (first | exact ResAt.nil | apply ResAt.cellA rfl (by (repeat' (first | exact AHeap.set_same _ _ _)); first | done | fail) (by rfl))
  exact ⟨_, _, .refl _, (by repeat (first | exact AHeap.le.refl _ | refine AHeap.le.set ?_ _ (by (repeat' (first | assumption | exact AHeap.z2 ‹_› | refine AHeap.so ?_ ?_ | exact AHeap.n1 ‹_› | exact AHeap.n4 ‹_› ‹_›)); first | done | fail) | refine AHeap.le.both ?_ _ _)), rfl, rfl⟩
end Go.Proofs.Ytdinnoejipmiiaa

namespace Go.Proofs.Ytdinnoejipmiiaa
open Go.Av
def quo : List UInt8 → Option (List UInt8 × Nat)
  | [] => none
  | c :: r =>
    if c = 39 then
      match r with
      | d :: r' => if d = 39 then (quo r').map fun p => (39 :: p.1, p.2 + 2) else some ([], 1)
      | [] => some ([], 1)
    else (quo r).map fun p => (c :: p.1, p.2 + 1)
theorem quo_nil : quo [] = none := by unfold quo; rfl
theorem quo_ne {c : UInt8} (r : List UInt8) (h : ¬ c = 39) : quo (c :: r) = (quo r).map fun p => (c :: p.1, p.2 + 1) := by
  conv => lhs; unfold quo
  simp [h]
theorem quo_end : quo [39] = some ([], 1) := by unfold quo; rfl
theorem quo_two (r : List UInt8) : quo (39 :: 39 :: r) = (quo r).map fun p => (39 :: p.1, p.2 + 2) := by
  conv => lhs; unfold quo
  simp
theorem quo_stop {d : UInt8} (r : List UInt8) (h : ¬ d = 39) : quo (39 :: d :: r) = some ([], 1) := by
  conv => lhs; unfold quo
  simp [h]
theorem one_byte (x : UInt8) : ∀ e ∈ [[u8 x]], ∀ a ∈ e, a.one = true := by
  intro e he a ha
  simp only [List.mem_singleton] at he
  subst he
  simp only [List.mem_singleton] at ha
  subst ha; rfl
def r68l0 : RCode :=
  (.seq (.seq (.region [
    ⟨(some 13), none, .pure, .mv (.tmp 0)⟩,
    ⟨(some 14), none, .pure, .nilCheck (.tmp 13)⟩,
    ⟨(some 15), none, .pure, .fieldAddr 1 (.tmp 14)⟩,
    ⟨(some 16), none, .read, .load false 1 (.tmp 15)⟩,
    ⟨(some 17), none, .pure, .mv (.tmp 0)⟩,
    ⟨(some 18), none, .pure, .nilCheck (.tmp 17)⟩,
    ⟨(some 19), none, .pure, .fieldAddr 0 (.tmp 18)⟩,
    ⟨(some 20), none, .read, .load false 1 (.tmp 19)⟩,
    ⟨(some 21), none, .pure, .lenStr (.tmp 20)⟩,
    ⟨(some 22), none, .pure, .bin .lss (.tmp 16) (.tmp 21)⟩])
  (.cond (.tmp 22)
   .skip
   (.exit 0)))
  (.block 1
   (.seq (.region [
     ⟨(some 23), none, .pure, .mv (.tmp 0)⟩,
     ⟨(some 24), none, .pure, .nilCheck (.tmp 23)⟩,
     ⟨(some 25), none, .pure, .fieldAddr 0 (.tmp 24)⟩,
     ⟨(some 26), none, .read, .load false 1 (.tmp 25)⟩,
     ⟨(some 27), none, .pure, .mv (.tmp 0)⟩,
     ⟨(some 28), none, .pure, .nilCheck (.tmp 27)⟩,
     ⟨(some 29), none, .pure, .fieldAddr 1 (.tmp 28)⟩,
     ⟨(some 30), none, .read, .load false 1 (.tmp 29)⟩,
     ⟨(some 31), none, .pure, .indexStr (.tmp 26) (.tmp 30)⟩,
     ⟨(some 5), none, .pure, .mv (.tmp 31)⟩])
   (.seq (.region [
     ⟨(some 32), none, .act, .mv (.tmp 0)⟩,
     ⟨(some 33), none, .act, .nilCheck (.tmp 32)⟩,
     ⟨(some 34), none, .act, .fieldAddr 1 (.tmp 33)⟩,
     ⟨(some 35), none, .act, .load false 1 (.tmp 34)⟩,
     ⟨(some 36), none, .act, .bin .add (.tmp 35) (.const (.int .i64 1))⟩,
     ⟨(some 37), none, .act, .nilCheck (.tmp 32)⟩,
     ⟨(some 38), none, .act, .fieldAddr 1 (.tmp 37)⟩,
     ⟨none, none, .act, .store 1 (.tmp 38) (.tmp 36)⟩])
   (.seq (.seq (.region [
     ⟨(some 39), none, .act, .mv (.tmp 5)⟩,
     ⟨(some 40), none, .act, .eq true .int (.tmp 39) (.const (.int .u8 39))⟩])
   (.cond (.tmp 40)
    (.seq (.region [
      ⟨(some 41), none, .act, .mv (.tmp 4)⟩,
      ⟨(some 42), none, .act, .mv (.tmp 5)⟩,
      ⟨(some 43), none, .act, .buildSl 1 [(.int .u8 0)] 1 [(0, (.tmp 42))]⟩,
      ⟨(some 44), none, .act, .append 1 1 [(.int .u8 0)] (.tmp 41) (.tmp 43)⟩,
      ⟨(some 4), none, .act, .mv (.tmp 44)⟩])
    (.exit 1))
    .skip))
   (.seq (.seq (.region [
     ⟨(some 45), none, .pure, .mv (.tmp 0)⟩,
     ⟨(some 46), none, .pure, .nilCheck (.tmp 45)⟩,
     ⟨(some 47), none, .pure, .fieldAddr 1 (.tmp 46)⟩,
     ⟨(some 48), none, .read, .load false 1 (.tmp 47)⟩,
     ⟨(some 49), none, .pure, .mv (.tmp 0)⟩,
     ⟨(some 50), none, .pure, .nilCheck (.tmp 49)⟩,
     ⟨(some 51), none, .pure, .fieldAddr 0 (.tmp 50)⟩,
     ⟨(some 52), none, .read, .load false 1 (.tmp 51)⟩,
     ⟨(some 53), none, .pure, .lenStr (.tmp 52)⟩,
     ⟨(some 54), none, .pure, .eq false .int (.tmp 48) (.tmp 53)⟩,
     ⟨(some 55), none, .pure, .mv (.tmp 54)⟩,
     ⟨(some 56), (some (55, false)), .pure, .mv (.tmp 0)⟩,
     ⟨(some 57), (some (55, false)), .pure, .nilCheck (.tmp 56)⟩,
     ⟨(some 58), (some (55, false)), .pure, .fieldAddr 0 (.tmp 57)⟩,
     ⟨(some 59), (some (55, false)), .read, .load false 1 (.tmp 58)⟩,
     ⟨(some 60), (some (55, false)), .pure, .mv (.tmp 0)⟩,
     ⟨(some 61), (some (55, false)), .pure, .nilCheck (.tmp 60)⟩,
     ⟨(some 62), (some (55, false)), .pure, .fieldAddr 1 (.tmp 61)⟩,
     ⟨(some 63), (some (55, false)), .read, .load false 1 (.tmp 62)⟩,
     ⟨(some 64), (some (55, false)), .pure, .indexStr (.tmp 59) (.tmp 63)⟩,
     ⟨(some 65), (some (55, false)), .pure, .eq true .int (.tmp 64) (.const (.int .u8 39))⟩,
     ⟨(some 66), none, .pure, .pick (.tmp 55) (.const (.bool true)) (.tmp 65)⟩])
   (.cond (.tmp 66)
    (.seq (.region [
      ⟨(some 67), none, .act, .mv (.tmp 4)⟩,
      ⟨(some 68), none, .act, .toStr (.tmp 67)⟩,
      ⟨(some 69), none, .act, .build [(.int .i64 0), (.string ⟨#[]⟩), (.int .i64 0), (.int .i64 0)] [(0, 1, (.const (.int .i64 3))), (1, 1, (.tmp 68))]⟩,
      ⟨(some 70), none, .act, .mv (.tmp 4)⟩,
      ⟨(some 71), none, .act, .len (.tmp 70)⟩,
      ⟨(some 72), none, .act, .bin .leq (.tmp 71) (.const (.int .i64 1000))⟩,
      ⟨none, none, .act, .store 4 (.tmp 2) (.tmp 69)⟩,
      ⟨(some 3), none, .act, .mv (.tmp 72)⟩])
    .ret)
    .skip))
   (.seq (.region [
     ⟨(some 73), none, .act, .mv (.tmp 4)⟩,
     ⟨(some 74), none, .act, .mv (.tmp 5)⟩,
     ⟨(some 75), none, .act, .buildSl 1 [(.int .u8 0)] 1 [(0, (.tmp 74))]⟩,
     ⟨(some 76), none, .act, .append 1 1 [(.int .u8 0)] (.tmp 73) (.tmp 75)⟩,
     ⟨(some 4), none, .act, .mv (.tmp 76)⟩])
   (.region [
     ⟨(some 77), none, .act, .mv (.tmp 0)⟩,
     ⟨(some 78), none, .act, .nilCheck (.tmp 77)⟩,
     ⟨(some 79), none, .act, .fieldAddr 1 (.tmp 78)⟩,
     ⟨(some 80), none, .act, .load false 1 (.tmp 79)⟩,
     ⟨(some 81), none, .act, .bin .add (.tmp 80) (.const (.int .i64 1))⟩,
     ⟨(some 82), none, .act, .nilCheck (.tmp 77)⟩,
     ⟨(some 83), none, .act, .fieldAddr 1 (.tmp 82)⟩,
     ⟨none, none, .act, .store 1 (.tmp 83) (.tmp 81)⟩]))))))))
def r68 : RCode :=
  (.seq (.region [
    ⟨(some 2), none, .act, .alloc [(.int .i64 0), (.string ⟨#[]⟩), (.int .i64 0), (.int .i64 0)]⟩,
    ⟨(some 3), none, .act, .mv (.const (.bool false))⟩])
  (.seq (.region [
    ⟨(some 4), none, .act, .mv (.const (.slice none 0 0))⟩])
  (.seq (.region [
    ⟨(some 6), none, .act, .mv (.tmp 0)⟩,
    ⟨(some 7), none, .act, .nilCheck (.tmp 6)⟩,
    ⟨(some 8), none, .act, .fieldAddr 1 (.tmp 7)⟩,
    ⟨(some 9), none, .act, .load false 1 (.tmp 8)⟩,
    ⟨(some 10), none, .act, .bin .add (.tmp 9) (.const (.int .i64 1))⟩,
    ⟨(some 11), none, .act, .nilCheck (.tmp 6)⟩,
    ⟨(some 12), none, .act, .fieldAddr 1 (.tmp 11)⟩,
    ⟨none, none, .act, .store 1 (.tmp 12) (.tmp 10)⟩])
  (.seq (.block 0
   (.loop r68l0))
  (.seq (.region [
    ⟨(some 84), none, .act, .build [(.int .i64 0), (.string ⟨#[]⟩), (.int .i64 0), (.int .i64 0)] []⟩,
    ⟨none, none, .act, .store 4 (.tmp 2) (.tmp 84)⟩,
    ⟨(some 3), none, .act, .mv (.const (.bool false))⟩])
  .ret)))))
theorem res68 : ∃ c, Try.f68.body = some c ∧ resCode Try.prog 85 c = some r68 := ⟨_, rfl, by kernel_rfl⟩
theorem rr68 : resRes Try.prog Try.f68.results.toList = some [.cell 2 true 4, .tmp 3] := by kernel_rfl
theorem quoted_loop (s : List UInt8) (hs : s.length ≤ 2000000) (p b2 : Nat) (h₀ : AHeap) (h0p : h₀ p = none) (h02 : h₀ b2 = none) (hpb : p ≠ b2) (k : List RT) (Q : AV → AHeap → Prop) : ∀ (m j : Nat) (acc : List UInt8) (cc : Cap) (g : AHeap), s.length - j ≤ m → j ≤ s.length → acc.length ≤ j → Grow h₀ g cc → g p = some (.box (cut s j)) → g b2 = some (.box (Pa.Tok.cells ⟨0, [], 0, 0⟩)) →
    (match quo (s.drop j) with
     | some (l, n) => ∀ g', h₀.le g' → g' p = some (.box (cut s (j + n))) → Q (.tu [.ag (Pa.Tok.cells ⟨3, acc ++ l, 0, 0⟩), bl (decide ((acc ++ l).length ≤ 1000))]) g'
     | none => ∀ g', h₀.le g' → g' p = some (.box (cut s s.length)) → g' b2 = some (.box (Pa.Tok.cells ⟨0, [], 0, 0⟩)) → RRun Try.prog Try.f68 85 k (Env.get [(2, ptr b2), (3, bl false)]) g' Q) →
    RRun Try.prog Try.f68 85 (.inLoop r68l0 :: .inBlock 0 :: k) (Env.get [(0, ptr p), (2, ptr b2), (3, bl false), (4, .sl 1 (Go.Av.byteCells acc) cc)]) g Q := by
  have hbp : b2 ≠ p := Ne.symm hpb
  intro m
  induction m using Nat.strongRecOn with
  | ind m ih =>
    intro j acc cc g hm hj hacc hg hp hb2 hk
    rcases Nat.lt_or_ge j s.length with hlt | hge
    · have hd : s.drop j = s[j] :: s.drop (j + 1) := List.drop_eq_getElem_cons hlt
      have hg1 : s[((j : Nat) : Int).toNat]? = some s[j] := by simp [hlt]
      rw [hd] at hk
      generalize s[j] = x at hk hg1
      have hxl := x.toNat_lt
      refine RRun.inLoop ?_
      have next : ∀ (x : UInt8) (d : Nat), 1 ≤ d → j + d ≤ s.length →
          (match (quo (s.drop (j + d))).map (fun q => (x :: q.1, q.2 + d)) with
           | some (l, n) => ∀ g', h₀.le g' → g' p = some (.box (cut s (j + n))) → Q (.tu [.ag (Pa.Tok.cells ⟨3, acc ++ l, 0, 0⟩), bl (decide ((acc ++ l).length ≤ 1000))]) g'
           | none => ∀ g', h₀.le g' → g' p = some (.box (cut s s.length)) → g' b2 = some (.box (Pa.Tok.cells ⟨0, [], 0, 0⟩)) → RRun Try.prog Try.f68 85 k (Env.get [(2, ptr b2), (3, bl false)]) g' Q) →
          ∀ c' h', Grow h₀ h' c' → h' p = some (.box (cut s (j + d))) → h' b2 = some (.box (Pa.Tok.cells ⟨0, [], 0, 0⟩)) →
          RRun Try.prog Try.f68 85 (.inLoop r68l0 :: .inBlock 0 :: k) (Env.get [(0, ptr p), (2, ptr b2), (3, bl false), (4, .sl 1 (Go.Av.byteCells acc ++ [[u8 x]]) c')]) h' Q := by
        intro x d hd1 hjd hk c' h' hg' hp' hb2'
        have e : Go.Av.byteCells acc ++ [[u8 x]] = Go.Av.byteCells (acc ++ [x]) := by simp [Go.Av.byteCells, Go.Av.byteCell]
        rw [e]
        refine ih (s.length - (j + d)) (by omega) (j + d) (acc ++ [x]) c' h' (Nat.le_refl _) hjd (by simp; omega) hg' hp' hb2' ?_
        cases hq : quo (s.drop (j + d)) with
        | none => rw [hq] at hk; exact hk
        | some ln =>
          obtain ⟨l, n⟩ := ln
          rw [hq] at hk
          intro g' q1 q2
          have := hk g' q1 (by rw [q2]; congr 2; rw [show j + d + n = j + (n + d) by omega])
          simpa using this
      by_cases hx : x = 39
      · subst hx
        have hx39 : ((39 : UInt8).toNat : Int) = 39 := rfl
        rcases Nat.lt_or_ge (j + 1) s.length with hlt2 | hge2
        · have hd2 : s.drop (j + 1) = s[j + 1] :: s.drop (j + 2) := List.drop_eq_getElem_cons hlt2
          have hg2 : s[((j : Int) + 1).toNat]? = some s[j + 1] := by
            have : ((j : Int) + 1).toNat = j + 1 := by omega
            rw [this]; simp [hlt2]
          rw [hd2] at hk
          generalize s[j + 1] = y at hk hg2
          have hyl := y.toNat_lt
          by_cases hy : y = 39
          · subst hy
            rw [quo_two] at hk
            repeat' (first | refine S.nilK ?_ | (refine S.op rfl ?_; first | refine S.lenS rfl ?_ | refine S.indexS rfl rfl (by omega) hg1 ?_ | refine S.indexS rfl rfl (by omega) hg2 ?_ | refine R.mv rfl ?_ | refine R.fieldAddr rfl ?_ | refine R.nilCheck rfl ?_ | refine R.load (by decide) rfl (by (repeat' (first | assumption | exact AHeap.set_same _ _ _)); first | done | fail) rfl ?_ | refine S.addI rfl rfl (by omega) ?_ | refine R.pickF rfl rfl ?_ | refine R.buildSl rfl rfl rfl (by decide) ?_ | ((first | refine S.lss rfl rfl ?_ ?_ | refine S.eqInt rfl rfl ?_ ?_) <;> intro hlt <;> try (exfalso; omega))) | (refine S.op0 rfl ?_; first | refine S.store rfl rfl (by (repeat' (first | assumption)); first | done | fail) rfl rfl rfl (by rfl) rfl ?_) | refine S.seq ?_ | refine S.region ?_ | refine S.condT rfl ?_ | refine S.condF rfl ?_ | refine RRun.skip ?_ | refine RRun.block ?_)
            refine S.op rfl (S.appendG (ys := [[u8 39]]) rfl (hg.setBox _ hp h0p) rfl (.sl _ _) rfl (.sl _ _) (one_byte 39) (by simp [Go.Av.byteCells]; omega) (by simp [Go.Av.byteCells]; omega) (fun c' h' hg' hbox => ?_))
            have hp' := hbox p _ (AHeap.set_same _ _ _)
            have hb2' := hbox b2 _ ((AHeap.set_other _ _ (Ne.symm hpb)).trans hb2)
            repeat' (first | refine S.nilK ?_ | (refine S.op rfl ?_; first | refine R.mv rfl ?_ | refine R.fieldAddr rfl ?_ | refine R.nilCheck rfl ?_ | refine R.load (by decide) rfl (by (repeat' (first | assumption)); first | done | fail) rfl ?_ | refine S.addI rfl rfl (by omega) ?_) | (refine S.op0 rfl ?_; first | refine S.store rfl rfl (by (repeat' (first | assumption)); first | done | fail) rfl rfl rfl (by rfl) rfl ?_) | refine S.region ?_ | refine RRun.inBlock ?_)
            rw [show ((j : Int) + 1 + 1) = ((j + 2 : Nat) : Int) by omega]
            refine S.keep [0, 2, 3, 4] rfl (next 39 2 (by omega) (by omega) hk c' _ ?_ (AHeap.set_same _ _ _) ?_)
            · exact hg'.setBox _ hp' h0p
            · exact (AHeap.set_other _ _ (Ne.symm hpb)).trans hb2'
          · have hy' : ¬ ((y.toNat : Int) = 39) := fun e => hy (UInt8.toNat_inj.1 (by have : (39 : UInt8).toNat = 39 := rfl; omega))
            rw [quo_stop _ hy] at hk
            repeat' (first | refine S.nilK ?_ | (refine S.op rfl ?_; first | refine S.lenS rfl ?_ | refine S.indexS rfl rfl (by omega) hg1 ?_ | refine S.indexS rfl rfl (by omega) hg2 ?_ | refine S.toStrS rfl ?_ | refine R.mv rfl ?_ | refine R.fieldAddr rfl ?_ | refine R.nilCheck rfl ?_ | refine R.load (by decide) rfl (by (repeat' (first | assumption | exact AHeap.set_same _ _ _)); first | done | fail) rfl ?_ | refine S.addI rfl rfl (by omega) ?_ | refine R.pickF rfl rfl ?_ | refine R.len rfl ?_ | refine R.build rfl rfl ?_ | ((first | refine S.lss rfl rfl ?_ ?_ | refine S.leq rfl rfl ?_ ?_ | refine S.eqInt rfl rfl ?_ ?_) <;> intro hlt <;> try (exfalso; omega))) | (refine S.op0 rfl ?_; first | refine S.store rfl rfl (by (repeat' (first | assumption | refine AHeap.so ?_ ?_)); first | done | fail) rfl rfl rfl (by rfl) rfl ?_) | refine S.seq ?_ | refine S.region ?_ | refine S.condT rfl ?_ | refine S.condF rfl ?_ | refine RRun.skip ?_ | refine RRun.block ?_)
            all_goals
              apply S.ret rr68
              case hx => repeat (first | exact ResAt.nil | apply ResAt.tmp rfl | apply ResAt.cellA rfl (by (repeat' (first | exact AHeap.set_same _ _ _)); first | done | fail) (by rfl))
              have fin := hk ((g.set p (.box (cut s (j + 1)))).set b2 (.box (Pa.Tok.cells ⟨3, acc, 0, 0⟩))) ((hg.le.set _ h0p).set _ h02) ((AHeap.set_other _ _ hpb).trans (AHeap.set_same _ _ _))
              rw [List.append_nil] at fin
              rw [Go.Av.len_bytes] at hlt
              first
                | (rw [decide_eq_true (by omega)] at fin; exact fin)
                | (rw [decide_eq_false (by omega)] at fin; exact fin)
        · have hd2 : s.drop (j + 1) = [] := by simp; omega
          rw [hd2, quo_end] at hk
          repeat' (first | refine S.nilK ?_ | (refine S.op rfl ?_; first | refine S.lenS rfl ?_ | refine S.indexS rfl rfl (by omega) hg1 ?_ | refine S.toStrS rfl ?_ | refine R.mv rfl ?_ | refine R.fieldAddr rfl ?_ | refine R.nilCheck rfl ?_ | refine R.load (by decide) rfl (by (repeat' (first | assumption | exact AHeap.set_same _ _ _)); first | done | fail) rfl ?_ | refine S.addI rfl rfl (by omega) ?_ | refine R.pickT rfl rfl ?_ | refine R.len rfl ?_ | refine R.build rfl rfl ?_ | ((first | refine S.lss rfl rfl ?_ ?_ | refine S.leq rfl rfl ?_ ?_ | refine S.eqInt rfl rfl ?_ ?_) <;> intro hlt <;> try (exfalso; omega))) | (refine S.op0 rfl ?_; first | refine S.store rfl rfl (by (repeat' (first | assumption | refine AHeap.so ?_ ?_)); first | done | fail) rfl rfl rfl (by rfl) rfl ?_) | refine S.skip rfl ?_ | refine S.seq ?_ | refine S.region ?_ | refine S.condT rfl ?_ | refine S.condF rfl ?_ | refine RRun.skip ?_ | refine RRun.block ?_)
          all_goals
            apply S.ret rr68
            case hx => repeat (first | exact ResAt.nil | apply ResAt.tmp rfl | apply ResAt.cellA rfl (by (repeat' (first | exact AHeap.set_same _ _ _)); first | done | fail) (by rfl))
            have fin := hk ((g.set p (.box (cut s (j + 1)))).set b2 (.box (Pa.Tok.cells ⟨3, acc, 0, 0⟩))) ((hg.le.set _ h0p).set _ h02) ((AHeap.set_other _ _ hpb).trans (AHeap.set_same _ _ _))
            rw [List.append_nil] at fin
            rw [Go.Av.len_bytes] at hlt
            first
              | (rw [decide_eq_true (by omega)] at fin; exact fin)
              | (rw [decide_eq_false (by omega)] at fin; exact fin)
      · have hx' : ¬ ((x.toNat : Int) = 39) := fun e => hx (UInt8.toNat_inj.1 (by have : (39 : UInt8).toNat = 39 := rfl; omega))
        rw [quo_ne _ hx] at hk
        repeat' (first | refine S.nilK ?_ | (refine S.op rfl ?_; first | refine S.lenS rfl ?_ | refine S.indexS rfl rfl (by omega) hg1 ?_ | refine R.mv rfl ?_ | refine R.fieldAddr rfl ?_ | refine R.nilCheck rfl ?_ | refine R.load (by decide) rfl (by (repeat' (first | assumption)); first | done | fail) rfl ?_ | refine S.addI rfl rfl (by omega) ?_ | refine R.buildSl rfl rfl rfl (by decide) ?_ | ((first | refine S.lss rfl rfl ?_ ?_ | refine S.eqInt rfl rfl ?_ ?_) <;> intro hlt <;> try (exfalso; omega))) | (refine S.op0 rfl ?_; first | refine S.store rfl rfl (by (repeat' (first | assumption)); first | done | fail) rfl rfl rfl (by rfl) rfl ?_) | refine S.seq ?_ | refine S.region ?_ | refine S.condT rfl ?_ | refine RRun.skip ?_ | refine RRun.block ?_)
        refine S.op rfl (S.appendG (ys := [[u8 x]]) rfl (hg.setBox _ hp h0p) rfl (.sl _ _) rfl (.sl _ _) (one_byte x) (by simp [Go.Av.byteCells]; omega) (by simp [Go.Av.byteCells]; omega) (fun c' h' hg' hbox => ?_))
        have hp' := hbox p _ (AHeap.set_same _ _ _)
        have hb2' := hbox b2 _ ((AHeap.set_other _ _ (Ne.symm hpb)).trans hb2)
        repeat' (first | refine S.nilK ?_ | (refine S.op rfl ?_; first | refine R.mv rfl ?_) | refine RRun.exit rfl ?_)
        refine S.keep [0, 2, 3, 4] rfl (next x 1 (by omega) (by omega) hk c' _ hg' ?_ hb2')
        exact hp'
    · have hd : s.drop j = [] := by simp; omega
      have hjs : j = s.length := by omega
      rw [hd, quo_nil] at hk
      refine RRun.inLoop ?_
      repeat' (first | refine S.nilK ?_ | (refine S.op rfl ?_; first | refine S.lenS rfl ?_ | refine R.mv rfl ?_ | refine R.fieldAddr rfl ?_ | refine R.nilCheck rfl ?_ | refine R.load (by decide) rfl (by (repeat' (first | assumption)); first | done | fail) rfl ?_ | ((first | refine S.lss rfl rfl ?_ ?_) <;> intro hlt <;> try (exfalso; omega))) | refine S.seq ?_ | refine S.region ?_ | refine S.condF rfl ?_ | refine RRun.exit rfl ?_)
      exact S.keep [2, 3] rfl (hk g hg.le (by rw [hp, hjs]) hb2)
theorem quo_len : ∀ (n : Nat) (t : List UInt8), t.length ≤ n → ∀ l m, quo t = some (l, m) → m ≤ t.length ∧ l.length ≤ m := by
  intro n
  induction n using Nat.strongRecOn with
  | ind n ih =>
    intro t ht l m hq
    match t, ht with
    | [], _ => rw [quo_nil] at hq; cases hq
    | c :: r, ht =>
      simp only [List.length_cons] at ht ⊢
      by_cases hc : c = 39
      · subst hc
        match r, ht with
        | [], _ => rw [quo_end] at hq; cases hq; simp
        | d :: r', ht =>
          simp only [List.length_cons] at ht ⊢
          by_cases hd : d = 39
          · subst hd
            rw [quo_two] at hq
            cases hq2 : quo r' with
            | none => rw [hq2] at hq; cases hq
            | some lm =>
              rw [hq2] at hq; cases hq
              have := ih r'.length (by omega) r' (Nat.le_refl _) lm.1 lm.2 hq2
              simp only [List.length_cons]; omega
          · rw [quo_stop _ hd] at hq; cases hq; simp
      · rw [quo_ne _ hc] at hq
        cases hq2 : quo r with
        | none => rw [hq2] at hq; cases hq
        | some lm =>
          rw [hq2] at hq; cases hq
          have := ih r.length (by omega) r (Nat.le_refl _) lm.1 lm.2 hq2
          simp only [List.length_cons]; omega
theorem quoted_spec (s : List UInt8) (hs : s.length ≤ 2000000) (p i : Nat) (hi : i < s.length) (h : AHeap) (hp : h p = some (.box (cut s i))) :
    ACalls Try.prog 68 [ptr p] h (fun x h' => match quo (s.drop (i + 1)) with
      | some (l, n) => x = .tu [.ag (Pa.Tok.cells ⟨3, l, 0, 0⟩), bl (decide (l.length ≤ 1000))] ∧ h' = h.set p (.box (cut s (i + 1 + n)))
      | none => x = .tu [.ag (Pa.Tok.cells ⟨0, [], 0, 0⟩), bl false] ∧ h' = h.set p (.box (cut s s.length))) := by
  obtain ⟨c, hc1, hc2⟩ := res68
  refine ACalls.weak (ACalls.enter Try.func68 hc1 Try.ntmps68 hc2 (Nat.le_of_ble_eq_true rfl) rfl ?_)
  repeat' (first | refine S.nilK ?_ | (refine S.op rfl ?_; first | refine R.mv rfl ?_ | refine R.fieldAddr rfl ?_ | refine R.nilCheck rfl ?_ | refine R.load (by decide) rfl (by (repeat' (first | assumption | refine AHeap.get_fresh ‹_› ?_)); first | done | fail) rfl ?_ | refine S.addI rfl rfl (by omega) ?_ | refine R.alloc rfl (fun b hb => ?_)) | (refine S.op0 rfl ?_; first | refine S.store rfl rfl (by (repeat' (first | assumption | refine AHeap.get_fresh ‹_› ?_)); first | done | fail) rfl rfl rfl (by rfl) rfl ?_) | refine S.seq ?_ | refine S.region ?_ | refine RRun.block ?_)
  rw [show ((i : Int) + 1) = ((i + 1 : Nat) : Int) by omega]
  have hpb : p ≠ b := AHeap.ne_of hb hp
  refine RRun.loopIn (S.keep [0, 2, 3, 4] rfl (RRun.envs (l' := [(0, ptr p), (2, ptr b), (3, bl false), (4, .sl 1 (Go.Av.byteCells []) .full)]) (.cons _ (.refl _) (.cons _ (.refl _) (.cons _ (.refl _) (.cons _ (.nilSl 1 trivial) .nil)))) ?_))
  have h0 : (h.del p) p = none := AHeap.del_same _ _
  have h0b : (h.del p) b = none := by rw [AHeap.del_other _ (Ne.symm hpb)]; exact hb
  have hg : Grow (h.del p) ((h.set b (.box [i64 0, str [], i64 0, i64 0])).set p (.box (cut s (i + 1)))) .full :=
    .of_le ((((AHeap.del_le h p)).set _ h0b).set _ h0)
  refine quoted_loop s hs p b (h.del p) h0 h0b hpb _ _ (s.length - (i + 1)) (i + 1) [] .full _ (Nat.le_refl _) (by omega) (by simp) hg (AHeap.set_same _ _ _) ((AHeap.set_other _ _ (Ne.symm hpb)).trans (AHeap.set_same _ _ _)) ?_
  cases hq : quo (s.drop (i + 1)) with
  | some ln =>
    obtain ⟨l, n⟩ := ln
    intro g' q1 q2
    rw [List.nil_append]
    exact ⟨_, _, .refl _, AHeap.le.of_del q1 q2 (.refl _), rfl, rfl⟩
  | none =>
    intro g' q1 q2 q3
    repeat' (first | refine S.nilK ?_ | (refine S.op rfl ?_; first | refine R.mv rfl ?_ | refine R.build rfl rfl ?_) | (refine S.op0 rfl ?_; first | refine S.store rfl rfl (by (repeat' (first | assumption)); first | done | fail) rfl rfl rfl (by rfl) rfl ?_) | refine S.seq ?_ | refine S.region ?_)
    apply S.ret rr68
    case hx => repeat (first | exact ResAt.nil | apply ResAt.tmp rfl | apply ResAt.cellA rfl (by (repeat' (first | exact AHeap.set_same _ _ _)); first | done | fail) (by rfl))
    refine ⟨_, _, .refl _, AHeap.le.of_del (q1.set _ h0b) ((AHeap.set_other _ _ hpb).trans q2) (.refl _), rfl, rfl⟩
end Go.Proofs.Ytdinnoejipmiiaa

namespace Go.Proofs.Ytdinnoejipmiiaa
open Go.Av
def bysR (l : List UInt8) : AV := .sl 1 (Go.Av.byteCells l) .ro
def r85l0 : RCode :=
  (.seq (.region [
    ⟨(some 9), none, .act, .bin .lss (.tmp 8) (.tmp 7)⟩])
  (.seq (.cond (.tmp 9)
   .skip
   (.exit 0))
  (.seq (.block 1
   (.seq (.region [
     ⟨(some 10), none, .act, .mv (.tmp 8)⟩,
     ⟨(some 5), none, .act, .mv (.tmp 10)⟩])
   (.seq (.region [
     ⟨(some 11), none, .act, .mv (.tmp 1)⟩,
     ⟨(some 12), none, .act, .mv (.tmp 0)⟩,
     ⟨(some 13), none, .act, .mv (.tmp 5)⟩,
     ⟨(some 14), none, .act, .indexAddr 1 (.tmp 12) (.tmp 13)⟩,
     ⟨(some 15), none, .act, .load false 1 (.tmp 14)⟩,
     ⟨(some 16), none, .act, .eq false .int (.tmp 11) (.tmp 15)⟩])
   (.cond (.tmp 16)
    (.seq (.region [
      ⟨(some 17), none, .act, .mv (.tmp 5)⟩,
      ⟨(some 4), none, .act, .mv (.tmp 17)⟩])
    .ret)
    .skip))))
  (.region [
    ⟨(some 18), none, .act, .bin .add (.tmp 8) (.const (.int .i64 1))⟩,
    ⟨(some 8), none, .act, .mv (.tmp 18)⟩]))))
def r85 : RCode :=
  (.seq (.region [
    ⟨(some 4), none, .act, .mv (.const (.int .i64 0))⟩])
  (.seq (.seq (.region [
    ⟨(some 6), none, .act, .mv (.tmp 0)⟩,
    ⟨(some 7), none, .act, .len (.tmp 6)⟩,
    ⟨(some 8), none, .act, .mv (.const (.int .i64 0))⟩])
  (.block 0
   (.loop r85l0)))
  (.seq (.region [
    ⟨(some 4), none, .act, .mv (.const (.int .i64 (-1)))⟩])
  .ret)))
theorem res85 : ∃ c, Try.f85.body = some c ∧ resCode Try.prog 19 c = some r85 := ⟨_, rfl, by kernel_rfl⟩
theorem rr85 : resRes Try.prog Try.f85.results.toList = some [.tmp 4] := by kernel_rfl
theorem index_loop (l : List UInt8) (hl : l.length ≤ 4611686018427387904) (x : UInt8) (h : AHeap) (k : List RT) (Q : AV → AHeap → Prop) (hQ : ∀ n : Int, 0 ≤ n → x ∈ l → Q (i64 n) h) : ∀ (m j : Nat), j + m = l.length →
    (x ∉ l.drop j → RRun Try.prog Try.f85 19 k (Env.get [(0, bysR l), (1, u8 x)]) h Q) →
    RRun Try.prog Try.f85 19 (.inLoop r85l0 :: .inBlock 0 :: k) (Env.get [(8, i64 j), (7, i64 l.length), (0, bysR l), (1, u8 x)]) h Q := by
  intro m
  induction m with
  | zero =>
    intro j hj hk
    have hd : l.drop j = [] := by simp; omega
    refine RRun.inLoop ?_
    repeat' (first | refine S.nilK ?_ | (refine S.op rfl ?_; first | ((first | refine S.lss rfl rfl ?_ ?_) <;> intro hlt <;> try (exfalso; omega))) | refine S.seq ?_ | refine S.region ?_ | refine S.condF rfl ?_ | refine RRun.exit rfl ?_)
    exact S.keep [0, 1] rfl (hk (by rw [hd]; simp))
  | succ m ih =>
    intro j hj hk
    have hlt : j < l.length := by omega
    have hd : l.drop j = l[j] :: l.drop (j + 1) := List.drop_eq_getElem_cons hlt
    have hg : (Go.Av.byteCells l)[((j : Nat) : Int).toNat]? = some (Go.Av.byteCell l[j]) := by simp [Go.Av.byteCells, hlt]
    have hmem : l[j] ∈ l := List.getElem_mem hlt
    rw [hd] at hk
    generalize l[j] = y at hk hg hmem
    refine RRun.inLoop ?_
    by_cases hxy : x = y
    · subst hxy
      repeat' (first | refine S.nilK ?_ | (refine S.op rfl ?_; first | refine R.indexAddr rfl rfl (by omega) hg ?_ | refine S.eqIntSame rfl rfl ?_ | refine R.mv rfl ?_ | refine R.loadR rfl rfl ?_ | ((first | refine S.lss rfl rfl ?_ ?_) <;> intro hlt <;> try (exfalso; omega))) | refine S.seq ?_ | refine S.region ?_ | refine S.condT rfl ?_ | refine RRun.skip ?_ | refine RRun.block ?_)
      apply S.ret rr85
      case hx => repeat (first | exact ResAt.nil | apply ResAt.tmp rfl)
      exact hQ _ (by omega) hmem
    · have hne : ¬ ((x.toNat : Int) = y.toNat) := fun e => hxy (UInt8.toNat_inj.1 (by omega))
      repeat' (first | refine S.nilK ?_ | (refine S.op rfl ?_; first | refine R.indexAddr rfl rfl (by omega) hg ?_ | refine R.mv rfl ?_ | refine R.loadR rfl rfl ?_ | refine S.addI rfl rfl (by omega) ?_ | ((first | refine S.lss rfl rfl ?_ ?_ | refine S.eqInt rfl rfl ?_ ?_) <;> intro hlt <;> try (exfalso; omega))) | refine S.seq ?_ | refine S.region ?_ | refine S.condT rfl ?_ | refine S.condF rfl ?_ | refine RRun.skip ?_ | refine RRun.block ?_ | refine RRun.inBlock ?_)
      rw [show ((j : Int) + 1) = ((j + 1 : Nat) : Int) by omega]
      exact S.keep [8, 7, 0, 1] rfl (ih (j + 1) (by omega) fun hn => hk (by simp [hxy]; exact hn))
theorem index_spec (l : List UInt8) (hl : l.length ≤ 4611686018427387904) (x : UInt8) (h : AHeap) : ACalls Try.prog 85 [bysR l, u8 x] h (fun v h' => ∃ n : Int, v = i64 n ∧ (0 ≤ n ↔ x ∈ l) ∧ h' = h) := by
  obtain ⟨c, hc1, hc2⟩ := res85
  refine ACalls.enter Try.func85 hc1 Try.ntmps85 hc2 (Nat.le_of_ble_eq_true rfl) rfl ?_
  unfold bysR
  repeat' (first | refine S.nilK ?_ | (refine S.op rfl ?_; first | refine R.mv rfl ?_ | refine R.len rfl ?_) | refine S.seq ?_ | refine S.region ?_ | refine RRun.block ?_)
  rw [Go.Av.len_bytes]
  refine RRun.loopIn (S.keep [8, 7, 0, 1] rfl (index_loop l hl x h _ _ (fun n hn hx => ⟨n, rfl, ⟨fun _ => hx, fun _ => hn⟩, rfl⟩) l.length 0 (by omega) fun hn => ?_))
  repeat' (first | refine S.nilK ?_ | (refine S.op rfl ?_; first | refine R.mv rfl ?_) | refine S.seq ?_ | refine S.region ?_)
  apply S.ret rr85
  case hx => repeat (first | exact ResAt.nil | apply ResAt.tmp rfl)
  exact ⟨_, rfl, ⟨fun e => absurd e (by decide), fun e => absurd (by simpa using e) hn⟩, rfl⟩
def r79 : RCode :=
  (.seq (.region [
    ⟨(some 4), none, .act, .mv (.const (.bool false))⟩])
  (.seq (.region [
    ⟨(some 5), none, .act, .mv (.tmp 0)⟩,
    ⟨(some 6), none, .act, .mv (.tmp 1)⟩,
    ⟨(some 7), none, .act, .call 85 [(.tmp 5), (.tmp 6)]⟩,
    ⟨(some 8), none, .act, .bin .geq (.tmp 7) (.const (.int .i64 0))⟩,
    ⟨(some 4), none, .act, .mv (.tmp 8)⟩])
  .ret))
theorem res79 : ∃ c, Try.f79.body = some c ∧ resCode Try.prog 9 c = some r79 := ⟨_, rfl, by kernel_rfl⟩
theorem rr79 : resRes Try.prog Try.f79.results.toList = some [.tmp 4] := by kernel_rfl
theorem contains_spec (l : List UInt8) (hl : l.length ≤ 4611686018427387904) (x : UInt8) (h : AHeap) : ACalls Try.prog 79 [bysR l, u8 x] h (fun v h' => v = bl (l.contains x) ∧ h' = h) := by
  obtain ⟨c, hc1, hc2⟩ := res79
  refine ACalls.enter Try.func79 hc1 Try.ntmps79 hc2 (Nat.le_of_ble_eq_true rfl) rfl ?_
  repeat' (first | refine S.nilK ?_ | (refine S.op rfl ?_; first | refine R.mv rfl ?_) | refine S.seq ?_ | refine S.region ?_)
  refine S.op rfl (R.call rfl rfl ((index_spec l hl x h).mono ?_))
  rintro v h' ⟨n, rfl, hn, rfl⟩
  repeat' (first | refine S.nilK ?_ | (refine S.op rfl ?_; first | refine R.mv rfl ?_ | ((first | refine S.geq rfl rfl ?_ ?_) <;> intro hlt <;> try (exfalso; omega))))
  · apply S.ret rr79
    case hx => repeat (first | exact ResAt.nil | apply ResAt.tmp rfl)
    exact ⟨congrArg bl (Eq.symm (by simpa using hn.1 hlt)), rfl⟩
  · apply S.ret rr79
    case hx => repeat (first | exact ResAt.nil | apply ResAt.tmp rfl)
    exact ⟨congrArg bl (Eq.symm (by simpa using fun e => hlt (hn.2 e))), rfl⟩
def pair (c d : UInt8) : Bool := (c == 60 && d == 61) || (c == 62 && d == 61) || (c == 60 && d == 62)
def marksL : List UInt8 := [40, 41, 44, 42, 43, 45, 47, 37, 61, 60, 62, 46]
def r69l0 : RCode :=
  (.seq (.region [
    ⟨(some 7), none, .act, .bin .lss (.tmp 6) (.const (.int .i64 3))⟩])
  (.seq (.cond (.tmp 7)
   .skip
   (.exit 0))
  (.seq (.block 1
   (.seq (.region [
     ⟨(some 8), none, .act, .mv (.tmp 6)⟩,
     ⟨(some 4), none, .act, .mv (.tmp 8)⟩])
   (.seq (.region [
     ⟨(some 9), none, .pure, .mv (.tmp 0)⟩,
     ⟨(some 10), none, .pure, .nilCheck (.tmp 9)⟩,
     ⟨(some 11), none, .pure, .fieldAddr 1 (.tmp 10)⟩,
     ⟨(some 12), none, .read, .load false 1 (.tmp 11)⟩,
     ⟨(some 13), none, .pure, .bin .add (.tmp 12) (.const (.int .i64 1))⟩,
     ⟨(some 14), none, .pure, .mv (.tmp 0)⟩,
     ⟨(some 15), none, .pure, .nilCheck (.tmp 14)⟩,
     ⟨(some 16), none, .pure, .fieldAddr 0 (.tmp 15)⟩,
     ⟨(some 17), none, .read, .load false 1 (.tmp 16)⟩,
     ⟨(some 18), none, .pure, .lenStr (.tmp 17)⟩,
     ⟨(some 19), none, .pure, .bin .lss (.tmp 13) (.tmp 18)⟩,
     ⟨(some 20), none, .pure, .mv (.tmp 19)⟩,
     ⟨(some 21), (some (20, true)), .pure, .mv (.tmp 0)⟩,
     ⟨(some 22), (some (20, true)), .pure, .nilCheck (.tmp 21)⟩,
     ⟨(some 23), (some (20, true)), .pure, .fieldAddr 0 (.tmp 22)⟩,
     ⟨(some 24), (some (20, true)), .read, .load false 1 (.tmp 23)⟩,
     ⟨(some 25), (some (20, true)), .pure, .mv (.tmp 0)⟩,
     ⟨(some 26), (some (20, true)), .pure, .nilCheck (.tmp 25)⟩,
     ⟨(some 27), (some (20, true)), .pure, .fieldAddr 1 (.tmp 26)⟩,
     ⟨(some 28), (some (20, true)), .read, .load false 1 (.tmp 27)⟩,
     ⟨(some 29), (some (20, true)), .pure, .indexStr (.tmp 24) (.tmp 28)⟩,
     ⟨(some 30), (some (20, true)), .pure, .mv (.tmp 4)⟩,
     ⟨(some 31), (some (20, true)), .pure, .indexStr (.const (.string ⟨#[60, 62, 60]⟩)) (.tmp 30)⟩,
     ⟨(some 32), (some (20, true)), .pure, .eq false .int (.tmp 29) (.tmp 31)⟩,
     ⟨(some 33), none, .pure, .pick (.tmp 20) (.tmp 32) (.const (.bool false))⟩,
     ⟨(some 34), none, .pure, .mv (.tmp 33)⟩,
     ⟨(some 35), (some (34, true)), .pure, .mv (.tmp 0)⟩,
     ⟨(some 36), (some (34, true)), .pure, .nilCheck (.tmp 35)⟩,
     ⟨(some 37), (some (34, true)), .pure, .fieldAddr 0 (.tmp 36)⟩,
     ⟨(some 38), (some (34, true)), .read, .load false 1 (.tmp 37)⟩,
     ⟨(some 39), (some (34, true)), .pure, .mv (.tmp 0)⟩,
     ⟨(some 40), (some (34, true)), .pure, .nilCheck (.tmp 39)⟩,
     ⟨(some 41), (some (34, true)), .pure, .fieldAddr 1 (.tmp 40)⟩,
     ⟨(some 42), (some (34, true)), .read, .load false 1 (.tmp 41)⟩,
     ⟨(some 43), (some (34, true)), .pure, .bin .add (.tmp 42) (.const (.int .i64 1))⟩,
     ⟨(some 44), (some (34, true)), .pure, .indexStr (.tmp 38) (.tmp 43)⟩,
     ⟨(some 45), (some (34, true)), .pure, .mv (.tmp 4)⟩,
     ⟨(some 46), (some (34, true)), .pure, .indexStr (.const (.string ⟨#[61, 61, 62]⟩)) (.tmp 45)⟩,
     ⟨(some 47), (some (34, true)), .pure, .eq false .int (.tmp 44) (.tmp 46)⟩,
     ⟨(some 48), none, .pure, .pick (.tmp 34) (.tmp 47) (.const (.bool false))⟩])
   (.cond (.tmp 48)
    (.seq (.region [
      ⟨(some 49), none, .act, .mv (.tmp 0)⟩,
      ⟨(some 50), none, .act, .nilCheck (.tmp 49)⟩,
      ⟨(some 51), none, .act, .fieldAddr 1 (.tmp 50)⟩,
      ⟨(some 52), none, .act, .load false 1 (.tmp 51)⟩,
      ⟨(some 53), none, .act, .bin .add (.tmp 52) (.const (.int .i64 2))⟩,
      ⟨(some 54), none, .act, .nilCheck (.tmp 49)⟩,
      ⟨(some 55), none, .act, .fieldAddr 1 (.tmp 54)⟩,
      ⟨none, none, .act, .store 1 (.tmp 55) (.tmp 53)⟩])
    (.seq (.region [
      ⟨(some 56), none, .pure, .mv (.tmp 0)⟩,
      ⟨(some 57), none, .pure, .nilCheck (.tmp 56)⟩,
      ⟨(some 58), none, .pure, .fieldAddr 0 (.tmp 57)⟩,
      ⟨(some 59), none, .read, .load false 1 (.tmp 58)⟩,
      ⟨(some 60), none, .pure, .mv (.tmp 0)⟩,
      ⟨(some 61), none, .pure, .nilCheck (.tmp 60)⟩,
      ⟨(some 62), none, .pure, .fieldAddr 1 (.tmp 61)⟩,
      ⟨(some 63), none, .read, .load false 1 (.tmp 62)⟩,
      ⟨(some 64), none, .pure, .bin .sub (.tmp 63) (.const (.int .i64 2))⟩,
      ⟨(some 65), none, .pure, .mv (.tmp 0)⟩,
      ⟨(some 66), none, .pure, .nilCheck (.tmp 65)⟩,
      ⟨(some 67), none, .pure, .fieldAddr 1 (.tmp 66)⟩,
      ⟨(some 68), none, .read, .load false 1 (.tmp 67)⟩,
      ⟨(some 69), none, .pure, .sliceStr (.tmp 59) (some (.tmp 64)) (some (.tmp 68))⟩,
      ⟨(some 70), none, .pure, .build [(.int .i64 0), (.string ⟨#[]⟩), (.int .i64 0), (.int .i64 0)] [(0, 1, (.const (.int .i64 4))), (1, 1, (.tmp 69))]⟩,
      ⟨none, none, .act, .store 4 (.tmp 2) (.tmp 70)⟩,
      ⟨(some 3), none, .pure, .mv (.const (.bool true))⟩])
    .ret))
    .skip))))
  (.region [
    ⟨(some 71), none, .act, .bin .add (.tmp 6) (.const (.int .i64 1))⟩,
    ⟨(some 6), none, .act, .mv (.tmp 71)⟩]))))
def r69 : RCode :=
  (.seq (.region [
    ⟨(some 2), none, .act, .alloc [(.int .i64 0), (.string ⟨#[]⟩), (.int .i64 0), (.int .i64 0)]⟩,
    ⟨(some 3), none, .act, .mv (.const (.bool false))⟩])
  (.seq (.seq (.region [
    ⟨(some 6), none, .act, .mv (.const (.int .i64 0))⟩])
  (.block 0
   (.loop r69l0)))
  (.seq (.region [
    ⟨(some 72), none, .pure, .mv (.tmp 0)⟩,
    ⟨(some 73), none, .pure, .nilCheck (.tmp 72)⟩,
    ⟨(some 74), none, .pure, .fieldAddr 0 (.tmp 73)⟩,
    ⟨(some 75), none, .read, .load false 1 (.tmp 74)⟩,
    ⟨(some 76), none, .pure, .mv (.tmp 0)⟩,
    ⟨(some 77), none, .pure, .nilCheck (.tmp 76)⟩,
    ⟨(some 78), none, .pure, .fieldAddr 1 (.tmp 77)⟩,
    ⟨(some 79), none, .read, .load false 1 (.tmp 78)⟩,
    ⟨(some 80), none, .pure, .indexStr (.tmp 75) (.tmp 79)⟩,
    ⟨(some 5), none, .pure, .mv (.tmp 80)⟩])
  (.seq (.region [
    ⟨(some 81), none, .act, .mv (.tmp 0)⟩,
    ⟨(some 82), none, .act, .nilCheck (.tmp 81)⟩,
    ⟨(some 83), none, .act, .fieldAddr 1 (.tmp 82)⟩,
    ⟨(some 84), none, .act, .load false 1 (.tmp 83)⟩,
    ⟨(some 85), none, .act, .bin .add (.tmp 84) (.const (.int .i64 1))⟩,
    ⟨(some 86), none, .act, .nilCheck (.tmp 81)⟩,
    ⟨(some 87), none, .act, .fieldAddr 1 (.tmp 86)⟩,
    ⟨none, none, .act, .store 1 (.tmp 87) (.tmp 85)⟩])
  (.seq (.region [
    ⟨(some 88), none, .pure, .mv (.tmp 5)⟩,
    ⟨(some 89), none, .pure, .buildSl 1 [(.int .u8 0)] 1 [(0, (.tmp 88))]⟩,
    ⟨(some 90), none, .pure, .toStr (.tmp 89)⟩,
    ⟨(some 91), none, .pure, .build [(.int .i64 0), (.string ⟨#[]⟩), (.int .i64 0), (.int .i64 0)] [(0, 1, (.const (.int .i64 4))), (1, 1, (.tmp 90))]⟩,
    ⟨(some 94), none, .pure, .mv (.tmp 5)⟩,
    ⟨(some 92), none, .act, .buildSl 1 [(.int .u8 0)] 12 [(0, (.const (.int .u8 40))), (1, (.const (.int .u8 41))), (2, (.const (.int .u8 44))), (3, (.const (.int .u8 42))), (4, (.const (.int .u8 43))), (5, (.const (.int .u8 45))), (6, (.const (.int .u8 47))), (7, (.const (.int .u8 37))), (8, (.const (.int .u8 61))), (9, (.const (.int .u8 60))), (10, (.const (.int .u8 62))), (11, (.const (.int .u8 46)))]⟩,
    ⟨(some 93), none, .act, .convSl (.tmp 92)⟩,
    ⟨(some 95), none, .act, .call 79 [(.tmp 93), (.tmp 94)]⟩,
    ⟨none, none, .act, .store 4 (.tmp 2) (.tmp 91)⟩,
    ⟨(some 3), none, .pure, .mv (.tmp 95)⟩])
  .ret)))))
theorem res69 : ∃ c, Try.f69.body = some c ∧ resCode Try.prog 96 c = some r69 := ⟨_, rfl, by kernel_rfl⟩
theorem rr69 : resRes Try.prog Try.f69.results.toList = some [.cell 2 true 4, .tmp 3] := by kernel_rfl
theorem mark_it (s : List UInt8) (hs : s.length ≤ 2000000) (p b2 i : Nat) (hi : i < s.length) (h : AHeap) (hp : h p = some (.box (cut s i))) (hb2 : h b2 = some (.box (Pa.Tok.cells ⟨0, [], 0, 0⟩))) (hpb : p ≠ b2) (k : List RT) (Q : AV → AHeap → Prop)
    (j : Nat) (hj : j < 3) (x y : UInt8) (hx : [(60 : UInt8), 62, 60][((j : Nat) : Int).toNat]? = some x) (hy : [(61 : UInt8), 61, 62][((j : Nat) : Int).toNat]? = some y)
    (hk : ¬ (∃ r, s.drop i = x :: y :: r) → RRun Try.prog Try.f69 96 (.inLoop r69l0 :: .inBlock 0 :: k) (Env.get [(6, i64 (j + 1 : Nat)), (0, ptr p), (2, ptr b2), (3, bl false)]) h Q)
    (hQ : (∃ r, s.drop i = x :: y :: r) → Q (.tu [.ag (Pa.Tok.cells ⟨4, [x, y], 0, 0⟩), bl true]) ((h.set p (.box (cut s (i + 2)))).set b2 (.box (Pa.Tok.cells ⟨4, [x, y], 0, 0⟩)))) :
    RRun Try.prog Try.f69 96 (.inLoop r69l0 :: .inBlock 0 :: k) (Env.get [(6, i64 j), (0, ptr p), (2, ptr b2), (3, bl false)]) h Q := by
  have hd : s.drop i = s[i] :: s.drop (i + 1) := List.drop_eq_getElem_cons hi
  have hg1 : s[((i : Nat) : Int).toNat]? = some s[i] := by simp [hi]
  have hbp : b2 ≠ p := Ne.symm hpb
  refine RRun.inLoop ?_
  rcases Nat.lt_or_ge (i + 1) s.length with hlt2 | hge2
  · have hd2 : s.drop (i + 1) = s[i + 1] :: s.drop (i + 2) := List.drop_eq_getElem_cons hlt2
    have hg2 : s[((i : Int) + 1).toNat]? = some s[i + 1] := by
      have : ((i : Int) + 1).toNat = i + 1 := by omega
      rw [this]; simp [hlt2]
    rw [hd, hd2] at hk hQ
    have hcut : (s.drop i).take 2 = [s[i], s[i + 1]] := by rw [hd, hd2]; rfl
    generalize s[i] = c at hk hQ hg1 hcut
    generalize s[i + 1] = d at hk hQ hg2 hcut
    by_cases h1 : c = x
    · subst h1
      by_cases h2 : d = y
      · subst h2
        repeat' (first | refine S.nilK ?_ | (refine S.op rfl ?_; first | refine S.lenS rfl ?_ | refine S.indexS rfl rfl (by omega) hg1 ?_ | refine S.indexS rfl rfl (by omega) hg2 ?_ | refine S.indexS (l := [60, 62, 60]) rfl rfl (by omega) hx ?_ | refine S.indexS (l := [61, 61, 62]) rfl rfl (by omega) hy ?_ | refine S.eqIntSame rfl rfl ?_ | refine S.sliceS rfl rfl rfl (by omega) (by omega) (by omega) ?_ | refine R.mv rfl ?_ | refine R.fieldAddr rfl ?_ | refine R.nilCheck rfl ?_ | refine R.load (by decide) rfl (by (repeat' (first | assumption | exact AHeap.set_same _ _ _)); first | done | fail) rfl ?_ | refine S.addI rfl rfl (by omega) ?_ | refine S.subI rfl rfl (by omega) ?_ | refine R.pickT rfl rfl ?_ | refine R.build rfl rfl ?_ | ((first | refine S.lss rfl rfl ?_ ?_) <;> intro hlt <;> try (exfalso; omega))) | (refine S.op0 rfl ?_; first | refine S.store rfl rfl (by (repeat' (first | assumption | refine AHeap.so ?_ ?_)); first | done | fail) rfl rfl rfl (by rfl) rfl ?_) | refine S.seq ?_ | refine S.region ?_ | refine S.condT rfl ?_ | refine RRun.skip ?_ | refine RRun.block ?_)
        apply S.ret rr69
        case hx => repeat (first | exact ResAt.nil | apply ResAt.tmp rfl | apply ResAt.cellA rfl (by (repeat' (first | exact AHeap.set_same _ _ _)); first | done | fail) (by rfl))
        have e : ((s.drop ((i : Int) + 2 - 2).toNat).take (((i : Int) + 2).toNat - ((i : Int) + 2 - 2).toNat)) = [c, d] := by
          rw [show ((i : Int) + 2 - 2).toNat = i by omega, show ((i : Int) + 2).toNat - i = 2 by omega, hcut]
        have fin := hQ ⟨_, rfl⟩
        rw [← e] at fin
        exact fin
      · have hne : ¬ ((d.toNat : Int) = y.toNat) := fun e => h2 (UInt8.toNat_inj.1 (by omega))
        repeat' (first | refine S.nilK ?_ | (refine S.op rfl ?_; first | refine S.lenS rfl ?_ | refine S.indexS rfl rfl (by omega) hg1 ?_ | refine S.indexS rfl rfl (by omega) hg2 ?_ | refine S.indexS (l := [60, 62, 60]) rfl rfl (by omega) hx ?_ | refine S.indexS (l := [61, 61, 62]) rfl rfl (by omega) hy ?_ | refine S.eqIntSame rfl rfl ?_ | refine R.mv rfl ?_ | refine R.fieldAddr rfl ?_ | refine R.nilCheck rfl ?_ | refine R.load (by decide) rfl (by (repeat' (first | assumption)); first | done | fail) rfl ?_ | refine S.addI rfl rfl (by omega) ?_ | refine R.pickT rfl rfl ?_ | ((first | refine S.lss rfl rfl ?_ ?_ | refine S.eqInt rfl rfl ?_ ?_) <;> intro hlt <;> try (exfalso; omega))) | refine S.seq ?_ | refine S.region ?_ | refine S.condT rfl ?_ | refine S.condF rfl ?_ | refine RRun.skip ?_ | refine RRun.block ?_ | refine RRun.inBlock ?_)
        rw [show ((j : Int) + 1) = ((j + 1 : Nat) : Int) by omega]
        exact S.keep [6, 0, 2, 3] rfl (hk (by rintro ⟨r, e⟩; simp at e; exact h2 e.1))
    · have hne : ¬ ((c.toNat : Int) = x.toNat) := fun e => h1 (UInt8.toNat_inj.1 (by omega))
      repeat' (first | refine S.nilK ?_ | (refine S.op rfl ?_; first | refine S.lenS rfl ?_ | refine S.indexS rfl rfl (by omega) hg1 ?_ | refine S.indexS (l := [60, 62, 60]) rfl rfl (by omega) hx ?_ | refine R.mv rfl ?_ | refine R.fieldAddr rfl ?_ | refine R.nilCheck rfl ?_ | refine R.load (by decide) rfl (by (repeat' (first | assumption)); first | done | fail) rfl ?_ | refine S.addI rfl rfl (by omega) ?_ | refine R.pickT rfl rfl ?_ | refine R.pickF rfl rfl ?_ | ((first | refine S.lss rfl rfl ?_ ?_ | refine S.eqInt rfl rfl ?_ ?_) <;> intro hlt <;> try (exfalso; omega))) | refine S.skip rfl ?_ | refine S.seq ?_ | refine S.region ?_ | refine S.condT rfl ?_ | refine S.condF rfl ?_ | refine RRun.skip ?_ | refine RRun.block ?_ | refine RRun.inBlock ?_)
      rw [show ((j : Int) + 1) = ((j + 1 : Nat) : Int) by omega]
      exact S.keep [6, 0, 2, 3] rfl (hk (by rintro ⟨r, e⟩; simp at e; exact h1 e.1))
  · have hd2 : s.drop (i + 1) = [] := by simp; omega
    rw [hd, hd2] at hk
    repeat' (first | refine S.nilK ?_ | (refine S.op rfl ?_; first | refine S.lenS rfl ?_ | refine R.mv rfl ?_ | refine R.fieldAddr rfl ?_ | refine R.nilCheck rfl ?_ | refine R.load (by decide) rfl (by (repeat' (first | assumption)); first | done | fail) rfl ?_ | refine S.addI rfl rfl (by omega) ?_ | refine R.pickF rfl rfl ?_ | ((first | refine S.lss rfl rfl ?_ ?_) <;> intro hlt <;> try (exfalso; omega))) | refine S.skip rfl ?_ | refine S.seq ?_ | refine S.region ?_ | refine S.condT rfl ?_ | refine S.condF rfl ?_ | refine RRun.skip ?_ | refine RRun.block ?_ | refine RRun.inBlock ?_)
    rw [show ((j : Int) + 1) = ((j + 1 : Nat) : Int) by omega]
    exact S.keep [6, 0, 2, 3] rfl (hk (by rintro ⟨r, e⟩; simp at e))
def markP (t : List UInt8) : List UInt8 × Bool :=
  match t with
  | [] => ([], false)
  | c :: r =>
    match r with
    | d :: _ => if pair c d then ([c, d], true) else ([c], marksL.contains c)
    | [] => ([c], marksL.contains c)
theorem markP_two {c d : UInt8} (r : List UInt8) (h : pair c d = true) : markP (c :: d :: r) = ([c, d], true) := by simp [markP, h]
theorem markP_one {c : UInt8} {r : List UInt8} (h : ∀ d r', r = d :: r' → pair c d = false) : markP (c :: r) = ([c], marksL.contains c) := by
  cases r with
  | nil => rfl
  | cons d r' => simp [markP, h d r' rfl]
theorem mark_spec (s : List UInt8) (hs : s.length ≤ 2000000) (p i : Nat) (hi : i < s.length) (h : AHeap) (hp : h p = some (.box (cut s i))) :
    ACalls Try.prog 69 [ptr p] h (fun x h' => x = .tu [.ag (Pa.Tok.cells ⟨4, (markP (s.drop i)).1, 0, 0⟩), bl (markP (s.drop i)).2] ∧ h' = h.set p (.box (cut s (i + (markP (s.drop i)).1.length)))) := by
  obtain ⟨c, hc1, hc2⟩ := res69
  refine ACalls.weak (ACalls.enter Try.func69 hc1 Try.ntmps69 hc2 (Nat.le_of_ble_eq_true rfl) rfl ?_)
  have hd : s.drop i = s[i] :: s.drop (i + 1) := List.drop_eq_getElem_cons hi
  have hg1 : s[((i : Nat) : Int).toNat]? = some s[i] := by simp [hi]
  repeat' (first | refine S.nilK ?_ | (refine S.op rfl ?_; first | refine R.mv rfl ?_ | refine R.alloc rfl (fun b hb => ?_)) | refine S.seq ?_ | refine S.region ?_ | refine RRun.block ?_)
  have hpb : p ≠ b := AHeap.ne_of hb hp
  have hbp : b ≠ p := Ne.symm hpb
  have hp1 : (h.set b (.box (Pa.Tok.cells ⟨0, [], 0, 0⟩))) p = some (.box (cut s i)) := (AHeap.set_other _ _ hpb).trans hp
  have two : ∀ x y : UInt8, pair x y = true → (∃ r, s.drop i = x :: y :: r) → (Weak (fun x h' => x = .tu [.ag (Pa.Tok.cells ⟨4, (markP (s.drop i)).1, 0, 0⟩), bl (markP (s.drop i)).2] ∧ h' = h.set p (.box (cut s (i + (markP (s.drop i)).1.length))))) (.tu [.ag (Pa.Tok.cells ⟨4, [x, y], 0, 0⟩), bl true]) (((h.set b (.box (Pa.Tok.cells ⟨0, [], 0, 0⟩))).set p (.box (cut s (i + 2)))).set b (.box (Pa.Tok.cells ⟨4, [x, y], 0, 0⟩))) := by
    rintro x y hxy ⟨r, e⟩
    rw [e, markP_two r hxy]
    exact ⟨_, _, .refl _, (by repeat (first | exact AHeap.le.refl _ | refine AHeap.le.set ?_ _ (by (repeat' (first | assumption | refine AHeap.so ?_ ?_)); first | done | fail) | refine AHeap.le.both ?_ _ _)), rfl, rfl⟩
  refine RRun.loopIn (S.keep [6, 0, 2, 3] rfl ?_)
  refine mark_it s hs p b i hi _ hp1 (AHeap.set_same _ _ _) hpb _ _ 0 (by decide) 60 61 rfl rfl (fun n0 => ?_) (two 60 61 (by decide))
  refine mark_it s hs p b i hi _ hp1 (AHeap.set_same _ _ _) hpb _ _ 1 (by decide) 62 61 rfl rfl (fun n1 => ?_) (two 62 61 (by decide))
  refine mark_it s hs p b i hi _ hp1 (AHeap.set_same _ _ _) hpb _ _ 2 (by decide) 60 62 rfl rfl (fun n2 => ?_) (two 60 62 (by decide))
  have hone : markP (s.drop i) = ([s[i]], marksL.contains s[i]) := by
    rw [hd] at n0 n1 n2 ⊢
    refine markP_one fun d r' e => ?_
    rw [e] at n0 n1 n2
    simp only [pair, Bool.or_eq_false_iff, Bool.and_eq_false_iff, beq_eq_false_iff_ne]
    refine ⟨⟨?_, ?_⟩, ?_⟩
    · by_cases h1 : s[i] = 60
      · exact .inr fun h2 => n0 ⟨r', by rw [h1, h2]⟩
      · exact .inl h1
    · by_cases h1 : s[i] = 62
      · exact .inr fun h2 => n1 ⟨r', by rw [h1, h2]⟩
      · exact .inl h1
    · by_cases h1 : s[i] = 60
      · exact .inr fun h2 => n2 ⟨r', by rw [h1, h2]⟩
      · exact .inl h1
  rw [hone]
  generalize s[i] = x at hg1 hone
  refine RRun.inLoop ?_
  have hb1 : (h.set b (.box (Pa.Tok.cells ⟨0, [], 0, 0⟩))) b = some (.box (Pa.Tok.cells ⟨0, [], 0, 0⟩)) := AHeap.set_same _ _ _
  repeat' (first | refine S.nilK ?_ | (refine S.op rfl ?_; first | refine S.indexS rfl rfl (by omega) hg1 ?_ | refine R.buildSlO rfl rfl rfl (fun r hr => ?_) | refine S.toStrS (l := [x]) rfl ?_ | refine R.mv rfl ?_ | refine R.fieldAddr rfl ?_ | refine R.nilCheck rfl ?_ | refine R.load (by decide) rfl (by (repeat' (first | assumption)); first | done | fail) rfl ?_ | refine S.addI rfl rfl (by omega) ?_ | refine R.build rfl rfl ?_ | refine R.buildSl rfl rfl rfl (by decide) ?_ | ((first | refine S.lss rfl rfl ?_ ?_) <;> intro hlt <;> try (exfalso; omega))) | (refine S.op0 rfl ?_; first | refine S.store rfl rfl (by (repeat' (first | assumption)); first | done | fail) rfl rfl rfl (by rfl) rfl ?_) | refine S.seq ?_ | refine S.region ?_ | refine S.condF rfl ?_ | refine RRun.exit rfl ?_)
  refine S.op rfl (R.convSl rfl rfl (AHeap.set_same _ _ _) rfl (by decide) ?_)
  rw [AHeap.del_set _ _ _ hr]
  refine S.op rfl (R.callQ (by decide) rfl (contains_spec marksL (by decide) x _) ?_)
  repeat' (first | refine S.nilK ?_ | (refine S.op rfl ?_; first | refine R.mv rfl ?_) | (refine S.op0 rfl ?_; first | refine S.store rfl rfl (by (repeat' (first | assumption | refine AHeap.so ?_ ?_)); first | done | fail) rfl rfl rfl (by rfl) rfl ?_))
  apply S.ret rr69
  case hx => repeat (first | exact ResAt.nil | apply ResAt.tmp rfl | apply ResAt.cellA rfl (by (repeat' (first | exact AHeap.set_same _ _ _)); first | done | fail) (by rfl))
  exact ⟨_, _, .refl _, (by repeat (first | exact AHeap.le.refl _ | refine AHeap.le.set ?_ _ (by (repeat' (first | assumption | refine AHeap.so ?_ ?_)); first | done | fail) | refine AHeap.le.both ?_ _ _)), rfl, rfl⟩
end Go.Proofs.Ytdinnoejipmiiaa

namespace Go.Proofs.Ytdinnoejipmiiaa
open Go.Av
def nextR (t : List UInt8) : Tok × Bool × Nat :=
  match t with
  | [] => (⟨0, [], 0, 0⟩, false, 0)
  | c :: r =>
    if isLetter c then (⟨1, (wordOf t).map small, 0, 0⟩, true, (wordOf t).length)
    else if isDigit c then (⟨2, [], (numO t).getD 0, 0⟩, (numO t).isSome, (digits t).length)
    else if c = 39 then (match quo r with | some (l, n) => (⟨3, l, 0, 0⟩, decide (l.length ≤ 1000), n + 1) | none => (⟨0, [], 0, 0⟩, false, t.length))
    else (⟨4, (markP t).1, 0, 0⟩, (markP t).2, (markP t).1.length)
def r57 : RCode :=
  (.seq (.region [
    ⟨(some 2), none, .act, .alloc [(.int .i64 0), (.string ⟨#[]⟩), (.int .i64 0), (.int .i64 0)]⟩,
    ⟨(some 3), none, .act, .mv (.const (.bool false))⟩])
  (.seq (.seq (.region [
    ⟨(some 5), none, .pure, .mv (.tmp 0)⟩,
    ⟨(some 6), none, .pure, .nilCheck (.tmp 5)⟩,
    ⟨(some 7), none, .pure, .fieldAddr 0 (.tmp 6)⟩,
    ⟨(some 8), none, .read, .load false 1 (.tmp 7)⟩,
    ⟨(some 9), none, .pure, .mv (.tmp 0)⟩,
    ⟨(some 10), none, .pure, .nilCheck (.tmp 9)⟩,
    ⟨(some 11), none, .pure, .fieldAddr 1 (.tmp 10)⟩,
    ⟨(some 12), none, .read, .load false 1 (.tmp 11)⟩,
    ⟨(some 13), none, .pure, .indexStr (.tmp 8) (.tmp 12)⟩,
    ⟨(some 4), none, .pure, .mv (.tmp 13)⟩])
  (.block 0
   (.seq (.region [
     ⟨(some 15), none, .act, .mv (.tmp 4)⟩,
     ⟨(some 16), none, .act, .call 64 [(.tmp 15)]⟩,
     ⟨(some 14), none, .act, .mv (.tmp 16)⟩])
   (.cond (.tmp 14)
    (.seq (.region [
      ⟨(some 17), none, .act, .mv (.tmp 0)⟩,
      ⟨(some 18), none, .act, .call 65 [(.tmp 17)]⟩,
      ⟨none, none, .act, .store 4 (.tmp 2) (.tmp 18)⟩,
      ⟨(some 3), none, .act, .mv (.const (.bool true))⟩])
    .ret)
    (.seq (.region [
      ⟨(some 20), none, .act, .mv (.tmp 4)⟩,
      ⟨(some 21), none, .act, .call 66 [(.tmp 20)]⟩,
      ⟨(some 19), none, .act, .mv (.tmp 21)⟩])
    (.cond (.tmp 19)
     (.seq (.region [
       ⟨(some 22), none, .act, .mv (.tmp 0)⟩,
       ⟨(some 23), none, .act, .call 67 [(.tmp 22)]⟩,
       ⟨(some 24), none, .act, .extract (.tmp 23) 0⟩,
       ⟨(some 25), none, .act, .extract (.tmp 23) 1⟩,
       ⟨none, none, .act, .store 4 (.tmp 2) (.tmp 24)⟩,
       ⟨(some 3), none, .act, .mv (.tmp 25)⟩])
     .ret)
     (.seq (.region [
       ⟨(some 27), none, .act, .mv (.tmp 4)⟩,
       ⟨(some 28), none, .act, .eq false .int (.tmp 27) (.const (.int .u8 39))⟩,
       ⟨(some 26), none, .act, .mv (.tmp 28)⟩])
     (.cond (.tmp 26)
      (.seq (.region [
        ⟨(some 29), none, .act, .mv (.tmp 0)⟩,
        ⟨(some 30), none, .act, .call 68 [(.tmp 29)]⟩,
        ⟨(some 31), none, .act, .extract (.tmp 30) 0⟩,
        ⟨(some 32), none, .act, .extract (.tmp 30) 1⟩,
        ⟨none, none, .act, .store 4 (.tmp 2) (.tmp 31)⟩,
        ⟨(some 3), none, .act, .mv (.tmp 32)⟩])
      .ret)
      .skip))))))))
  (.seq (.region [
    ⟨(some 33), none, .act, .mv (.tmp 0)⟩,
    ⟨(some 34), none, .act, .call 69 [(.tmp 33)]⟩,
    ⟨(some 35), none, .act, .extract (.tmp 34) 0⟩,
    ⟨(some 36), none, .act, .extract (.tmp 34) 1⟩,
    ⟨none, none, .act, .store 4 (.tmp 2) (.tmp 35)⟩,
    ⟨(some 3), none, .act, .mv (.tmp 36)⟩])
  .ret)))
theorem res57 : ∃ c, Try.f57.body = some c ∧ resCode Try.prog 37 c = some r57 := ⟨_, rfl, by kernel_rfl⟩
theorem rr57 : resRes Try.prog Try.f57.results.toList = some [.cell 2 true 4, .tmp 3] := by kernel_rfl
theorem next_spec (s : List UInt8) (hs : s.length ≤ 2000000) (p i : Nat) (hi : i < s.length) (h : AHeap) (hp : h p = some (.box (cut s i))) :
    ACalls Try.prog 57 [ptr p] h (fun x h' => x = .tu [.ag (nextR (s.drop i)).1.cells, bl (nextR (s.drop i)).2.1] ∧ h' = h.set p (.box (cut s (i + (nextR (s.drop i)).2.2)))) := by
  obtain ⟨c, hc1, hc2⟩ := res57
  refine ACalls.weak (ACalls.enter Try.func57 hc1 Try.ntmps57 hc2 (Nat.le_of_ble_eq_true rfl) rfl ?_)
  have hd : s.drop i = s[i] :: s.drop (i + 1) := List.drop_eq_getElem_cons hi
  have hg1 : s[((i : Nat) : Int).toNat]? = some s[i] := by simp [hi]
  repeat' (first | refine S.nilK ?_ | (refine S.op rfl ?_; first | refine S.indexS rfl rfl (by omega) hg1 ?_ | refine R.mv rfl ?_ | refine R.fieldAddr rfl ?_ | refine R.nilCheck rfl ?_ | refine R.load (by decide) rfl (by (repeat' (first | assumption | refine AHeap.get_fresh ‹_› ?_)); first | done | fail) rfl ?_ | refine R.alloc rfl (fun b hb => ?_)) | refine S.seq ?_ | refine S.region ?_ | refine RRun.block ?_)
  have hpb : p ≠ b := AHeap.ne_of hb hp
  have hbp : b ≠ p := Ne.symm hpb
  have hp1 : (h.set b (.box (Pa.Tok.cells ⟨0, [], 0, 0⟩))) p = some (.box (cut s i)) := (AHeap.set_other _ _ hpb).trans hp
  have hL := letter_spec s[i] (h.set b (.box (Pa.Tok.cells ⟨0, [], 0, 0⟩)))
  have hD := digit_spec s[i] (h.set b (.box (Pa.Tok.cells ⟨0, [], 0, 0⟩)))
  have e0 : nextR (s.drop i) = if isLetter s[i] then (⟨1, (wordOf (s.drop i)).map small, 0, 0⟩, true, (wordOf (s.drop i)).length)
      else if isDigit s[i] then (⟨2, [], (numO (s.drop i)).getD 0, 0⟩, (numO (s.drop i)).isSome, (digits (s.drop i)).length)
      else if s[i] = 39 then (match quo (s.drop (i + 1)) with | some (l, n) => (⟨3, l, 0, 0⟩, decide (l.length ≤ 1000), n + 1) | none => (⟨0, [], 0, 0⟩, false, (s.drop i).length))
      else (⟨4, (markP (s.drop i)).1, 0, 0⟩, (markP (s.drop i)).2, (markP (s.drop i)).1.length) := by rw [hd]; rfl
  have w0 := word_spec s (by omega) p i (by omega) _ hp1
  have n0 := number_spec s (by omega) p i (by omega) _ hp1
  have q0 := quoted_spec s hs p i hi _ hp1
  have m0 := mark_spec s hs p i hi _ hp1
  cases hl : isLetter s[i] with
  | true =>
    rw [hl] at hL
    rw [e0, if_pos hl]
    repeat' (first | refine S.nilK ?_ | (refine S.op rfl ?_; first | refine R.callQ (by decide) rfl hL ?_ | refine callS rfl rfl w0 ?_ | refine R.mv rfl ?_) | (refine S.op0 rfl ?_; first | refine S.store rfl rfl (by (repeat' (first | assumption | exact AHeap.set_same _ _ _ | refine AHeap.so ?_ ?_)); first | done | fail) rfl rfl rfl (by rfl) rfl ?_) | refine S.seq ?_ | refine S.region ?_ | refine S.condT rfl ?_)
    apply S.ret rr57
    case hx => repeat (first | exact ResAt.nil | apply ResAt.tmp rfl | apply ResAt.cellA rfl (by (repeat' (first | exact AHeap.set_same _ _ _)); first | done | fail) (by rfl))
    exact ⟨_, _, .refl _, (by repeat (first | exact AHeap.le.refl _ | refine AHeap.le.set ?_ _ (by (repeat' (first | assumption | refine AHeap.so ?_ ?_)); first | done | fail) | refine AHeap.le.both ?_ _ _)), rfl, rfl⟩
  | false =>
    rw [hl] at hL
    rw [e0, if_neg (by rw [hl]; decide)]
    cases hg : isDigit s[i] with
    | true =>
      rw [hg] at hD
      rw [if_pos rfl]
      repeat' (first | refine S.nilK ?_ | (refine S.op rfl ?_; first | refine R.callQ (by decide) rfl hL ?_ | refine R.callQ (by decide) rfl hD ?_ | refine callS rfl rfl n0 ?_ | refine R.mv rfl ?_ | refine R.extract rfl rfl ?_) | (refine S.op0 rfl ?_; first | refine S.store rfl rfl (by (repeat' (first | assumption | exact AHeap.set_same _ _ _ | refine AHeap.so ?_ ?_)); first | done | fail) rfl rfl rfl (by rfl) rfl ?_) | refine S.seq ?_ | refine S.region ?_ | refine S.condT rfl ?_ | refine S.condF rfl ?_)
      apply S.ret rr57
      case hx => repeat (first | exact ResAt.nil | apply ResAt.tmp rfl | apply ResAt.cellA rfl (by (repeat' (first | exact AHeap.set_same _ _ _)); first | done | fail) (by rfl))
      exact ⟨_, _, .refl _, (by repeat (first | exact AHeap.le.refl _ | refine AHeap.le.set ?_ _ (by (repeat' (first | assumption | refine AHeap.so ?_ ?_)); first | done | fail) | refine AHeap.le.both ?_ _ _)), rfl, rfl⟩
    | false =>
      rw [hg] at hD
      rw [if_neg (by decide)]
      by_cases h39 : s[i] = 39
      · rw [if_pos h39]
        have h39' : ((s[i].toNat : Nat) : Int) = 39 := by rw [h39]; rfl
        cases hq : quo (s.drop (i + 1)) with
        | some ln =>
          obtain ⟨l, n⟩ := ln
          rw [hq] at q0
          repeat' (first | refine S.nilK ?_ | (refine S.op rfl ?_; first | refine R.callQ (by decide) rfl hL ?_ | refine R.callQ (by decide) rfl hD ?_ | refine callS rfl rfl q0 ?_ | refine R.mv rfl ?_ | refine R.extract rfl rfl ?_ | ((first | refine S.eqInt rfl rfl ?_ ?_) <;> intro hlt <;> try (exfalso; omega))) | (refine S.op0 rfl ?_; first | refine S.store rfl rfl (by (repeat' (first | assumption | exact AHeap.set_same _ _ _ | refine AHeap.so ?_ ?_)); first | done | fail) rfl rfl rfl (by rfl) rfl ?_) | refine S.seq ?_ | refine S.region ?_ | refine S.condT rfl ?_ | refine S.condF rfl ?_)
          apply S.ret rr57
          case hx => repeat (first | exact ResAt.nil | apply ResAt.tmp rfl | apply ResAt.cellA rfl (by (repeat' (first | exact AHeap.set_same _ _ _)); first | done | fail) (by rfl))
          refine ⟨_, _, .refl _, ?_, rfl, rfl⟩
          rw [show i + (n + 1) = i + 1 + n by omega]
          exact (by repeat (first | exact AHeap.le.refl _ | refine AHeap.le.set ?_ _ (by (repeat' (first | assumption | refine AHeap.so ?_ ?_)); first | done | fail) | refine AHeap.le.both ?_ _ _))
        | none =>
          rw [hq] at q0
          repeat' (first | refine S.nilK ?_ | (refine S.op rfl ?_; first | refine R.callQ (by decide) rfl hL ?_ | refine R.callQ (by decide) rfl hD ?_ | refine callS rfl rfl q0 ?_ | refine R.mv rfl ?_ | refine R.extract rfl rfl ?_ | ((first | refine S.eqInt rfl rfl ?_ ?_) <;> intro hlt <;> try (exfalso; omega))) | (refine S.op0 rfl ?_; first | refine S.store rfl rfl (by (repeat' (first | assumption | exact AHeap.set_same _ _ _ | refine AHeap.so ?_ ?_)); first | done | fail) rfl rfl rfl (by rfl) rfl ?_) | refine S.seq ?_ | refine S.region ?_ | refine S.condT rfl ?_ | refine S.condF rfl ?_)
          apply S.ret rr57
          case hx => repeat (first | exact ResAt.nil | apply ResAt.tmp rfl | apply ResAt.cellA rfl (by (repeat' (first | exact AHeap.set_same _ _ _)); first | done | fail) (by rfl))
          refine ⟨_, _, .refl _, ?_, rfl, rfl⟩
          rw [show i + (s.drop i).length = s.length by simp; omega]
          exact (by repeat (first | exact AHeap.le.refl _ | refine AHeap.le.set ?_ _ (by (repeat' (first | assumption | refine AHeap.so ?_ ?_)); first | done | fail) | refine AHeap.le.both ?_ _ _))
      · rw [if_neg h39]
        have h39' : ¬ ((s[i].toNat : Nat) : Int) = 39 := fun e => h39 (UInt8.toNat_inj.1 (by have : (39 : UInt8).toNat = 39 := rfl; omega))
        repeat' (first | refine S.nilK ?_ | (refine S.op rfl ?_; first | refine R.callQ (by decide) rfl hL ?_ | refine R.callQ (by decide) rfl hD ?_ | refine callS rfl rfl m0 ?_ | refine R.mv rfl ?_ | refine R.extract rfl rfl ?_ | ((first | refine S.eqInt rfl rfl ?_ ?_) <;> intro hlt <;> try (exfalso; omega))) | (refine S.op0 rfl ?_; first | refine S.store rfl rfl (by (repeat' (first | assumption | exact AHeap.set_same _ _ _ | refine AHeap.so ?_ ?_)); first | done | fail) rfl rfl rfl (by rfl) rfl ?_) | refine S.seq ?_ | refine S.region ?_ | refine S.condF rfl ?_ | refine RRun.skip ?_ | refine RRun.inBlock ?_)
        apply S.ret rr57
        case hx => repeat (first | exact ResAt.nil | apply ResAt.tmp rfl | apply ResAt.cellA rfl (by (repeat' (first | exact AHeap.set_same _ _ _)); first | done | fail) (by rfl))
        exact ⟨_, _, .refl _, (by repeat (first | exact AHeap.le.refl _ | refine AHeap.le.set ?_ _ (by (repeat' (first | assumption | refine AHeap.so ?_ ?_)); first | done | fail) | refine AHeap.le.both ?_ _ _)), rfl, rfl⟩
end Go.Proofs.Ytdinnoejipmiiaa

namespace Go.Proofs.Ytdinnoejipmiiaa
open Go.Av
def blanks (t : List UInt8) : Nat := (t.takeWhile isBlank).length
def cutF : Nat → List UInt8 → Nat → Nat → List Tok × Option (Int × Nat)
  | 0, _, _, _ => ([], none)
  | f + 1, t, i, n =>
    if t.drop (blanks t) = [] then ([], none)
    else if n = 400 then ([], some (2, i + blanks t))
    else if (nextR (t.drop (blanks t))).2.1 then
      ({ (nextR (t.drop (blanks t))).1 with pos := (i + blanks t : Nat) } :: (cutF f ((t.drop (blanks t)).drop (nextR (t.drop (blanks t))).2.2) (i + blanks t + (nextR (t.drop (blanks t))).2.2) (n + 1)).1,
        (cutF f ((t.drop (blanks t)).drop (nextR (t.drop (blanks t))).2.2) (i + blanks t + (nextR (t.drop (blanks t))).2.2) (n + 1)).2)
    else ([], some (190, i + blanks t))
theorem cutF_end {f : Nat} {t : List UInt8} {i n : Nat} (h : t.drop (blanks t) = []) : cutF (f + 1) t i n = ([], none) := by simp only [cutF, h, if_true]
theorem cutF_long {f : Nat} {t : List UInt8} {i n : Nat} (h : t.drop (blanks t) ≠ []) (hn : n = 400) : cutF (f + 1) t i n = ([], some (2, i + blanks t)) := by simp only [cutF, if_neg h, if_pos hn]
theorem cutF_bad {f : Nat} {t : List UInt8} {i n : Nat} (h : t.drop (blanks t) ≠ []) (hn : n ≠ 400) (hb : (nextR (t.drop (blanks t))).2.1 = false) : cutF (f + 1) t i n = ([], some (190, i + blanks t)) := by simp only [cutF, if_neg h, if_neg hn, hb]; rfl
theorem cutF_tok {f : Nat} {t : List UInt8} {i n : Nat} (h : t.drop (blanks t) ≠ []) (hn : n ≠ 400) (hb : (nextR (t.drop (blanks t))).2.1 = true) : cutF (f + 1) t i n =
    ({ (nextR (t.drop (blanks t))).1 with pos := (i + blanks t : Nat) } :: (cutF f ((t.drop (blanks t)).drop (nextR (t.drop (blanks t))).2.2) (i + blanks t + (nextR (t.drop (blanks t))).2.2) (n + 1)).1,
        (cutF f ((t.drop (blanks t)).drop (nextR (t.drop (blanks t))).2.2) (i + blanks t + (nextR (t.drop (blanks t))).2.2) (n + 1)).2) := by simp only [cutF, if_neg h, if_neg hn, hb, if_true]
def errTok (pos : Nat) : Tok := ⟨0, [], 0, pos⟩
def yields (r : List Tok × Option (Int × Nat)) : List (List AV) :=
  r.1.map (fun t => [.ag t.cells, i64 0]) ++ (match r.2 with | none => [] | some (e, pos) => [[.ag (errTok pos).cells, i64 e]])
theorem takeWhile_pos {p : UInt8 → Bool} {c : UInt8} {r : List UInt8} (h : p c = true) : 1 ≤ ((c :: r).takeWhile p).length := by simp [h]
theorem takeWhile_le {p : UInt8 → Bool} (t : List UInt8) : (t.takeWhile p).length ≤ t.length := (List.takeWhile_prefix p).length_le
theorem nextR_len (t : List UInt8) (ht : t ≠ []) : (nextR t).2.2 ≤ t.length ∧ ((nextR t).2.1 = true → 1 ≤ (nextR t).2.2) := by
  match t, ht with
  | c :: r, _ =>
    unfold nextR
    by_cases h1 : isLetter c = true
    · simp only [h1, if_true]
      exact ⟨takeWhile_le _, fun _ => takeWhile_pos (by simp [isWord, h1])⟩
    · simp only [h1]
      by_cases h2 : isDigit c = true
      · simp only [h2, if_true]
        exact ⟨takeWhile_le _, fun _ => takeWhile_pos h2⟩
      · simp only [h2]
        by_cases h3 : c = 39
        · simp only [h3, if_true]
          cases hq : quo r with
          | none => simp
          | some ln =>
            obtain ⟨l, n⟩ := ln
            have := (quo_len _ r (Nat.le_refl _) l n hq).1
            simp; omega
        · simp only [h3, if_false]
          have : 1 ≤ (markP (c :: r)).1.length ∧ (markP (c :: r)).1.length ≤ (c :: r).length := by
            unfold markP
            cases r with
            | nil => simp
            | cons d r' => simp only; split <;> simp
          exact ⟨this.2, fun _ => this.1⟩
def r54l0 : RCode :=
  (.block 1
   (.seq (.region [
     ⟨(some 11), none, .act, .mv (.tmp 3)⟩,
     ⟨(some 12), none, .act, .call 55 [(.tmp 11), (.func 56)]⟩])
   (.seq (.region [
     ⟨(some 13), none, .act, .mv (.tmp 3)⟩,
     ⟨(some 14), none, .act, .nilCheck (.tmp 13)⟩,
     ⟨(some 15), none, .act, .fieldAddr 1 (.tmp 14)⟩,
     ⟨(some 16), none, .act, .load false 1 (.tmp 15)⟩,
     ⟨(some 5), none, .act, .mv (.tmp 16)⟩])
   (.seq (.seq (.region [
     ⟨(some 17), none, .act, .mv (.tmp 5)⟩,
     ⟨(some 18), none, .act, .load false 1 (.tmp 1)⟩,
     ⟨(some 19), none, .act, .lenStr (.tmp 18)⟩,
     ⟨(some 20), none, .act, .eq false .int (.tmp 17) (.tmp 19)⟩])
   (.cond (.tmp 20)
    (.exit 0)
    .skip))
   (.seq (.seq (.region [
     ⟨(some 21), none, .act, .mv (.tmp 4)⟩,
     ⟨(some 22), none, .act, .eq false .int (.tmp 21) (.const (.int .i64 400))⟩])
   (.cond (.tmp 22)
    (.seq (.region [
      ⟨(some 23), none, .act, .mv (.tmp 0)⟩,
      ⟨(some 24), none, .act, .mv (.tmp 5)⟩,
      ⟨(some 25), none, .act, .build [(.int .i64 0), (.string ⟨#[]⟩), (.int .i64 0), (.int .i64 0)] [(3, 1, (.tmp 24))]⟩,
      ⟨(some 26), none, .act, .callv (.tmp 23) [(.tmp 25), (.const (.int .i64 2))]⟩])
    .ret)
    .skip))
   (.seq (.region [
     ⟨(some 28), none, .act, .mv (.tmp 3)⟩,
     ⟨(some 29), none, .act, .call 57 [(.tmp 28)]⟩,
     ⟨(some 27), none, .act, .mv (.tmp 29)⟩,
     ⟨(some 30), none, .act, .extract (.tmp 27) 0⟩,
     ⟨(some 31), none, .act, .extract (.tmp 27) 1⟩,
     ⟨(some 6), none, .act, .alloc [(.int .i64 0), (.string ⟨#[]⟩), (.int .i64 0), (.int .i64 0)]⟩,
     ⟨none, none, .act, .store 4 (.tmp 6) (.tmp 30)⟩,
     ⟨(some 7), none, .act, .mv (.tmp 31)⟩])
   (.seq (.seq (.region [
     ⟨(some 32), none, .act, .mv (.tmp 7)⟩,
     ⟨(some 33), none, .act, .un .not (.tmp 32)⟩])
   (.cond (.tmp 33)
    (.seq (.region [
      ⟨(some 34), none, .act, .mv (.tmp 0)⟩,
      ⟨(some 35), none, .act, .mv (.tmp 5)⟩,
      ⟨(some 36), none, .act, .build [(.int .i64 0), (.string ⟨#[]⟩), (.int .i64 0), (.int .i64 0)] [(3, 1, (.tmp 35))]⟩,
      ⟨(some 37), none, .act, .callv (.tmp 34) [(.tmp 36), (.const (.int .i64 190))]⟩])
    .ret)
    .skip))
   (.seq (.region [
     ⟨(some 38), none, .act, .mv (.tmp 5)⟩,
     ⟨(some 39), none, .act, .fieldAddr 3 (.tmp 6)⟩,
     ⟨none, none, .act, .store 1 (.tmp 39) (.tmp 38)⟩])
   (.seq (.region [
     ⟨(some 40), none, .act, .mv (.tmp 4)⟩,
     ⟨(some 41), none, .act, .bin .add (.tmp 40) (.const (.int .i64 1))⟩,
     ⟨(some 4), none, .act, .mv (.tmp 41)⟩])
   (.seq (.region [
     ⟨(some 42), none, .act, .mv (.tmp 0)⟩,
     ⟨(some 43), none, .act, .load true 4 (.tmp 6)⟩,
     ⟨(some 44), none, .act, .callv (.tmp 42) [(.tmp 43), (.const (.int .i64 0))]⟩,
     ⟨(some 45), none, .act, .un .not (.tmp 44)⟩])
   (.cond (.tmp 45)
    .ret
    .skip)))))))))))
def r54 : RCode :=
  (.seq (.region [
    ⟨(some 8), none, .act, .load false 1 (.tmp 1)⟩,
    ⟨(some 9), none, .act, .build [(.string ⟨#[]⟩), (.int .i64 0)] [(0, 1, (.tmp 8))]⟩,
    ⟨(some 10), none, .act, .box (.tmp 9)⟩,
    ⟨(some 3), none, .act, .mv (.tmp 10)⟩])
  (.seq (.region [
    ⟨(some 4), none, .act, .mv (.const (.int .i64 0))⟩])
  (.seq .skip
  (.block 0
   (.loop r54l0)))))
theorem res54 : ∃ c, Try.f54.body = some c ∧ resCode Try.prog 46 c = some r54 := ⟨_, rfl, by kernel_rfl⟩
theorem rr54 : resRes Try.prog Try.f54.results.toList = some [] := by kernel_rfl
theorem tokens_loop (s : List UInt8) (hs : s.length ≤ 2000000) (l p q : Nat) (h0 : AHeap) (C0 : Nat → Prop) (I : Nat → (Nat → Prop) → AHeap → Prop) (Z : (Nat → Prop) → AHeap → Prop) (hI : ∀ j, Client (I j)) (ys : List (List AV))
    (hy : ∀ j vs, ys[j]? = some vs → ∀ C h, I j C h → YStep Try.prog l vs C h (I (j + 1)) Z) (h0p : h0 p = none) (hpq : p ≠ q) (Q : AV → AHeap → Prop)
    (hQ : ∀ C h, (I ys.length C h ∨ Z C h) → (∀ x o, h0 x = some o → ¬ C0 x → h x = some o) → (∀ x, C x → C0 x ∨ h0 x = none) → Q (.tu []) h) : ∀ (f i n j : Nat) (C : Nat → Prop) (g : AHeap), s.length - i < f → i ≤ s.length → n ≤ 400 → j ≤ ys.length →
    ys.drop j = yields (cutF f (s.drop i) i n) → I j C g → ¬ C p → ¬ C q → g p = some (.box (cut s i)) → g q = some (.box [str s]) → (∀ x o, h0 x = some o → ¬ C0 x → g x = some o) → (∀ x, C x → C0 x ∨ h0 x = none) →
    RRun Try.prog Try.f54 46 [.inLoop r54l0, .inBlock 0] (Env.get [(0, yieldV l), (1, ptr q), (3, ptr p), (4, i64 n)]) g Q := by
  have hqp := Ne.symm hpq
  intro f
  induction f with
  | zero => intro i n j C g hf; omega
  | succ f ih =>
    intro i n j C g hf hi hn hjl hys hIg hCp hCq hgp hgq hF hC
    have c15 := run_spec tells_blank s (by omega) p i hi g hgp
    have hbl : ((s.drop i).takeWhile isBlank).length = blanks (s.drop i) := rfl
    have hble : blanks (s.drop i) ≤ s.length - i := by have := takeWhile_le (p := isBlank) (s.drop i); simp at this; exact this
    rw [hbl] at c15
    have hdd : (s.drop i).drop (blanks (s.drop i)) = s.drop (i + blanks (s.drop i)) := by rw [List.drop_drop]
    -- behind the blanks
    have hg1p : (g.set p (.box (cut s (i + blanks (s.drop i))))) p = some (.box (cut s (i + blanks (s.drop i)))) := AHeap.set_same _ _ _
    have hg1q : (g.set p (.box (cut s (i + blanks (s.drop i))))) q = some (.box [str s]) := (AHeap.set_other _ _ hqp).trans hgq
    have hI1 : I j C (g.set p (.box (cut s (i + blanks (s.drop i))))) := (hI j).loc C g _ hIg fun x hx => AHeap.set_other _ _ (fun e => hCp (e ▸ hx))
    have hF1 : ∀ x o, h0 x = some o → ¬ C0 x → (g.set p (.box (cut s (i + blanks (s.drop i))))) x = some o := fun x o e hn => by
      rw [AHeap.set_other _ _ (fun e' => by subst e'; rw [h0p] at e; cases e)]; exact hF x o e hn
    generalize hg1 : g.set p (.box (cut s (i + blanks (s.drop i)))) = g1 at c15 hg1p hg1q hI1 hF1
    have aft : ∀ (gy : AHeap) (C' : Nat → Prop) (h' : AHeap), (∀ x o, h0 x = some o → ¬ C0 x → gy x = some o) → (∀ x, C' x → C x ∨ gy x = none) → Foot C gy h' → (∀ x o, h0 x = some o → ¬ C0 x → h' x = some o) ∧ (∀ x, C' x → C0 x ∨ h0 x = none) := by
      intro gy C' h' f1 f2 f3
      refine ⟨fun x o e hn => f3 x o (f1 x o e hn) (fun hc => (hC x hc).elim hn (fun e' => by rw [e] at e'; cases e')), fun x hx => ?_⟩
      rcases f2 x hx with hc | hc
      · exact hC x hc
      · cases he : h0 x with
        | none => exact .inr rfl
        | some o =>
          by_cases h0x : C0 x
          · exact .inl h0x
          · have := f1 x o he h0x; rw [hc] at this; cases this
    refine RRun.inLoop ?_
    by_cases hE : i + blanks (s.drop i) = s.length
    · have ht : (s.drop i).drop (blanks (s.drop i)) = [] := by rw [hdd]; simp; omega
      rw [cutF_end ht] at hys
      have hlen : ys.length ≤ j := by
        have : (ys.drop j).length = 0 := by rw [hys]; rfl
        simp at this; omega
      repeat' (first | refine S.nilK ?_ | (refine S.op rfl ?_; first | refine callS rfl rfl c15 ?_ | refine S.lenS rfl ?_ | refine R.mv rfl ?_ | refine R.fieldAddr rfl ?_ | refine R.nilCheck rfl ?_ | refine R.load (by decide) rfl (by (repeat' (first | assumption)); first | done | fail) rfl ?_ | ((first | refine S.eqInt rfl rfl ?_ ?_) <;> intro hlt <;> try (exfalso; omega))) | refine S.seq ?_ | refine S.region ?_ | refine S.condT rfl ?_ | refine RRun.block ?_ | refine RRun.exit rfl ?_)
      apply S.done rr54
      case hx => repeat (first | exact ResAt.nil)
      exact hQ C _ (.inl (by rw [show ys.length = j by omega]; exact hI1)) hF1 hC
    have hne : (s.drop i).drop (blanks (s.drop i)) ≠ [] := by rw [hdd]; simp; omega
    by_cases hn4 : n = 400
    · subst hn4
      rw [cutF_long hne rfl] at hys
      have hj : ys[j]? = some [.ag (errTok (i + blanks (s.drop i))).cells, i64 2] := by
        have : (ys.drop j)[0]? = some [.ag (errTok (i + blanks (s.drop i))).cells, i64 2] := by rw [hys]; rfl
        simpa using this
      have hlen : ys.length ≤ j + 1 := by
        have : (ys.drop j).length = 1 := by rw [hys]; rfl
        simp at this; omega
      have hjlt : j < ys.length := (List.getElem?_eq_some_iff.1 hj).1
      repeat' (first | refine S.nilK ?_ | (refine S.op rfl ?_; first | refine callS rfl rfl c15 ?_ | refine S.lenS rfl ?_ | refine R.mv rfl ?_ | refine R.fieldAddr rfl ?_ | refine R.nilCheck rfl ?_ | refine R.load (by decide) rfl (by (repeat' (first | assumption)); first | done | fail) rfl ?_ | refine R.build rfl rfl ?_ | ((first | refine S.eqInt rfl rfl ?_ ?_) <;> intro hlt <;> try (exfalso; omega))) | refine S.seq ?_ | refine S.region ?_ | refine S.condT rfl ?_ | refine S.condF rfl ?_ | refine RRun.skip ?_ | refine RRun.block ?_)
      refine S.op rfl (R.yield rfl rfl rfl ((hy j _ hj C _ hI1).mono ?_))
      rintro bb h' ⟨C', hC', hft, hbb⟩
      obtain ⟨a1, a2⟩ := aft _ C' h' hF1 hC' hft
      repeat' (first | refine S.nilK ?_)
      apply S.ret rr54
      case hx => repeat (first | exact ResAt.nil)
      refine hQ C' _ ?_ a1 a2
      cases bb
      · exact .inr hbb
      · exact .inl (by rw [show ys.length = j + 1 by omega]; exact hbb)
    have c17 := next_spec s hs p (i + blanks (s.drop i)) (by omega) _ hg1p
    rw [← hdd] at c17
    cases hok : (nextR ((s.drop i).drop (blanks (s.drop i)))).2.1 with
    | false =>
      rw [cutF_bad hne hn4 hok] at hys
      rw [hok] at c17
      have hj : ys[j]? = some [.ag (errTok (i + blanks (s.drop i))).cells, i64 190] := by
        have : (ys.drop j)[0]? = some [.ag (errTok (i + blanks (s.drop i))).cells, i64 190] := by rw [hys]; rfl
        simpa using this
      have hlen : ys.length ≤ j + 1 := by
        have : (ys.drop j).length = 1 := by rw [hys]; rfl
        simp at this; omega
      have hjlt : j < ys.length := (List.getElem?_eq_some_iff.1 hj).1
      repeat' (first | refine S.nilK ?_ | (refine S.op rfl ?_; first | refine callS rfl rfl c15 ?_ | refine S.lenS rfl ?_ | refine callS rfl rfl c17 ?_ | refine R.mv rfl ?_ | refine R.fieldAddr rfl ?_ | refine R.nilCheck rfl ?_ | refine R.load (by decide) rfl (by (repeat' (first | assumption)); first | done | fail) rfl ?_ | refine R.not rfl ?_ | refine R.extract rfl rfl ?_ | refine R.alloc rfl (fun b hb => ?_) | refine R.build rfl rfl ?_ | ((first | refine S.eqInt rfl rfl ?_ ?_) <;> intro hlt <;> try (exfalso; omega))) | (refine S.op0 rfl ?_; first | refine S.storeS rfl rfl rfl (by rfl) rfl (by first | decide | exact Nat.le_refl _ | exact Nat.le_of_ble_eq_true rfl) ?_) | refine S.seq ?_ | refine S.region ?_ | refine S.condT rfl ?_ | refine S.condF rfl ?_ | refine RRun.skip ?_ | refine RRun.block ?_)
      have hb1 : g1 b = none := AHeap.z1 hb
      have hbp : b ≠ p := AHeap.n1 hb
      have hqb : q ≠ b := fun e => by rw [e, hb1] at hg1q; cases hg1q
      have hCx : ∀ x, C x → x ≠ b ∧ x ≠ p := fun x hx => ⟨fun e => (hI j).own C g1 hI1 x hx (e ▸ hb1), fun e => hCp (e ▸ hx)⟩
      refine S.op rfl (R.yield rfl rfl rfl ((hy j _ hj C _ ?_).mono ?_))
      · exact (hI j).loc C g1 _ hI1 fun x hx => by simp only [AHeap.set, (hCx x hx).1, (hCx x hx).2, if_false]
      rintro bb h' ⟨C', hC', hft, hbb⟩
      obtain ⟨a1, a2⟩ := aft _ C' h' (fun x o e hn => by
        have h1 := hF1 x o e hn
        have hxb : x ≠ b := fun e' => by subst e'; rw [hb1] at h1; cases h1
        have hxp : x ≠ p := fun e' => by subst e'; rw [h0p] at e; cases e
        simp only [AHeap.set, hxb, hxp, if_false]; exact h1) (fun x hx => hC' x hx) hft
      repeat' (first | refine S.nilK ?_)
      apply S.ret rr54
      case hx => repeat (first | exact ResAt.nil)
      refine hQ C' _ ?_ a1 a2
      cases bb
      · exact .inr hbb
      · exact .inl (by rw [show ys.length = j + 1 by omega]; exact hbb)
    | true =>
      rw [cutF_tok hne hn4 hok] at hys
      rw [hok] at c17
      obtain ⟨k1, k2⟩ := nextR_len _ hne
      have k2 := k2 hok
      have hle2 : ((s.drop i).drop (blanks (s.drop i))).length = s.length - (i + blanks (s.drop i)) := by rw [hdd]; simp
      have hd3 : ((s.drop i).drop (blanks (s.drop i))).drop (nextR ((s.drop i).drop (blanks (s.drop i)))).2.2 = s.drop (i + blanks (s.drop i) + (nextR ((s.drop i).drop (blanks (s.drop i)))).2.2) := by rw [hdd, List.drop_drop]
      rw [hd3] at hys
      generalize hm : (nextR ((s.drop i).drop (blanks (s.drop i)))).2.2 = m at *
      generalize hT : (nextR ((s.drop i).drop (blanks (s.drop i)))).1 = T at *
      have hys' : ys.drop j = [.ag ({ T with pos := (i + blanks (s.drop i) : Nat) } : Tok).cells, i64 0] :: yields (cutF f (s.drop (i + blanks (s.drop i) + m)) (i + blanks (s.drop i) + m) (n + 1)) := hys
      have hj : ys[j]? = some [.ag ({ T with pos := (i + blanks (s.drop i) : Nat) } : Tok).cells, i64 0] := by
        have : (ys.drop j)[0]? = some [.ag ({ T with pos := (i + blanks (s.drop i) : Nat) } : Tok).cells, i64 0] := by rw [hys']; rfl
        simpa using this
      have hjlt : j < ys.length := (List.getElem?_eq_some_iff.1 hj).1
      have hrest : ys.drop (j + 1) = yields (cutF f (s.drop (i + blanks (s.drop i) + m)) (i + blanks (s.drop i) + m) (n + 1)) := by
        rw [show j + 1 = j + 1 from rfl, ← List.drop_drop, hys']; rfl
      have c17' : ACalls Try.prog 57 [ptr p] g1 (fun x h' => x = .tu [.ag T.cells, bl true] ∧ h' = g1.set p (.box (cut s (i + blanks (s.drop i) + m)))) := c17
      repeat' (first | refine S.nilK ?_ | (refine S.op rfl ?_; first | refine callS rfl rfl c15 ?_ | refine S.lenS rfl ?_ | refine callS rfl rfl c17' ?_ | refine R.mv rfl ?_ | refine R.fieldAddr rfl ?_ | refine R.nilCheck rfl ?_ | refine R.load (by decide) rfl (by (repeat' (first | assumption | exact AHeap.set_same _ _ _)); first | done | fail) rfl ?_ | refine S.addI rfl rfl (by omega) ?_ | refine R.not rfl ?_ | refine R.extract rfl rfl ?_ | refine R.alloc rfl (fun b hb => ?_) | ((first | refine S.eqInt rfl rfl ?_ ?_) <;> intro hlt <;> try (exfalso; omega))) | (refine S.op0 rfl ?_; first | refine S.storeS rfl rfl rfl (by rfl) rfl (by first | decide | exact Nat.le_refl _ | exact Nat.le_of_ble_eq_true rfl) ?_) | refine S.seq ?_ | refine S.region ?_ | refine S.condF rfl ?_ | refine RRun.skip ?_ | refine RRun.block ?_)
      have hb1 : g1 b = none := AHeap.z1 hb
      have hbp : b ≠ p := AHeap.n1 hb
      have hqb : q ≠ b := fun e => by rw [e, hb1] at hg1q; cases hg1q
      have hCx : ∀ x, C x → x ≠ b ∧ x ≠ p := fun x hx => ⟨fun e => (hI j).own C g1 hI1 x hx (e ▸ hb1), fun e => hCp (e ▸ hx)⟩
      refine S.op rfl (R.yield rfl rfl rfl ((hy j _ hj C _ ?_).mono ?_))
      · exact (hI j).loc C g1 _ hI1 fun x hx => by simp only [AHeap.set, (hCx x hx).1, (hCx x hx).2, if_false]
      rintro bb h' ⟨C', hC', hft, hbb⟩
      obtain ⟨a1, a2⟩ := aft _ C' h' (fun x o e hn => by
        have h1 := hF1 x o e hn
        have hxb : x ≠ b := fun e' => by subst e'; rw [hb1] at h1; cases h1
        have hxp : x ≠ p := fun e' => by subst e'; rw [h0p] at e; cases e
        simp only [AHeap.set, hxb, hxp, if_false]; exact h1) hC' hft
      cases bb with
      | false =>
        repeat' (first | refine S.nilK ?_ | (refine S.op rfl ?_; first | refine R.not rfl ?_) | refine S.condT rfl ?_)
        apply S.ret rr54
        case hx => repeat (first | exact ResAt.nil)
        exact hQ C' _ (.inr hbb) a1 a2
      | true =>
        repeat' (first | refine S.nilK ?_ | (refine S.op rfl ?_; first | refine R.not rfl ?_) | refine S.condF rfl ?_ | refine RRun.skip ?_ | refine RRun.inBlock ?_)
        rw [show ((n : Int) + 1) = ((n + 1 : Nat) : Int) by omega]
        refine S.keep [0, 1, 3, 4] rfl (ih (i + blanks (s.drop i) + m) (n + 1) (j + 1) C' h' (by omega) (by omega) (by omega) (by omega) hrest hbb ?_ ?_ ?_ ?_ a1 a2)
        · intro hc; rcases hC' p hc with e | e
          · exact hCp e
          · simp [AHeap.set, Ne.symm hbp] at e
        · intro hc; rcases hC' q hc with e | e
          · exact hCq e
          · simp [AHeap.set, hqb, hqp, hg1q] at e
        · exact hft p _ (by simp [AHeap.set, Ne.symm hbp]) hCp
        · exact hft q _ (by simp [AHeap.set, hqb, hqp, hg1q]) hCq
def cutS (s : List UInt8) : List Tok × Option (Int × Nat) := cutF (s.length + 1) s 0 0
theorem tokens_spec (s : List UInt8) (hs : s.length ≤ 2000000) (l q : Nat) (h0 : AHeap) (C0 : Nat → Prop) (I : Nat → (Nat → Prop) → AHeap → Prop) (Z : (Nat → Prop) → AHeap → Prop) (hI : ∀ j, Client (I j))
    (hy : ∀ j vs, (yields (cutS s))[j]? = some vs → ∀ C h, I j C h → YStep Try.prog l vs C h (I (j + 1)) Z) (hI0 : I 0 C0 h0) (hq : h0 q = some (.box [str s])) (hCq : ¬ C0 q) :
    ACalls Try.prog 54 [yieldV l, ptr q] h0 (fun _ h' => ∃ C, (I (yields (cutS s)).length C h' ∨ Z C h') ∧ (∀ x o, h0 x = some o → ¬ C0 x → h' x = some o) ∧ (∀ x, C x → C0 x ∨ h0 x = none)) := by
  obtain ⟨c, hc1, hc2⟩ := res54
  refine ACalls.enter Try.func54 hc1 Try.ntmps54 hc2 (Nat.le_of_ble_eq_true rfl) rfl ?_
  repeat' (first | refine S.nilK ?_ | (refine S.op rfl ?_; first | refine R.mv rfl ?_ | refine R.load (by decide) rfl (by (repeat' (first | assumption)); first | done | fail) rfl ?_ | refine R.box rfl rfl rfl (fun b hb => ?_) | refine R.build rfl rfl ?_) | refine S.seq ?_ | refine S.region ?_ | refine RRun.skip ?_ | refine RRun.block ?_)
  have hqb : q ≠ b := AHeap.ne_of hb hq
  have hCb : ¬ C0 b := fun hx => (hI 0).own C0 h0 hI0 b hx hb
  refine RRun.loopIn (S.keep [0, 1, 3, 4] rfl ?_)
  refine tokens_loop s hs l b q h0 C0 I Z hI (yields (cutS s)) hy hb (Ne.symm hqb) _ (fun C h h1 h2 h3 => ⟨C, h1, h2, h3⟩) (s.length + 1) 0 0 0 C0 _ (by omega) (by omega) (by decide) (by omega) rfl
    ((hI 0).loc C0 h0 _ hI0 fun x hx => AHeap.set_other _ _ (fun e => hCb (e ▸ hx))) hCb hCq (AHeap.set_same _ _ _) ((AHeap.set_other _ _ hqb).trans hq) (fun x o e _ => AHeap.get_fresh hb e) (fun x hx => .inl hx)
def r39 : RCode :=
  (.seq (.region [
    ⟨(some 1), none, .act, .box (.tmp 0)⟩,
    ⟨(some 2), none, .act, .mv (.const .nilFunc)⟩])
  (.seq (.region [
    ⟨(some 3), none, .act, .makeFunc (.func 54) [] [(.tmp 1)]⟩,
    ⟨(some 2), none, .act, .mv (.tmp 3)⟩])
  .ret))
theorem res39 : ∃ c, Try.f39.body = some c ∧ resCode Try.prog 4 c = some r39 := ⟨_, rfl, by kernel_rfl⟩
theorem rr39 : resRes Try.prog Try.f39.results.toList = some [.tmp 2] := by kernel_rfl
theorem tokens_fn (s : List UInt8) (h : AHeap) : ACalls Try.prog 39 [str s] h (fun x h' => ∃ q, h q = none ∧ x = .v (.func (.func 54) #[] #[.pointer (some ⟨q, 0, none⟩)]) ∧ h' = h.set q (.box [str s])) := by
  obtain ⟨c, hc1, hc2⟩ := res39
  refine ACalls.enter Try.func39 hc1 Try.ntmps39 hc2 (Nat.le_of_ble_eq_true rfl) rfl ?_
  repeat' (first | refine S.nilK ?_ | (refine S.op rfl ?_; first | refine R.mv rfl ?_ | refine R.box rfl rfl rfl (fun b hb => ?_) | refine R.makeFunc rfl rfl ?_) | refine S.seq ?_ | refine S.region ?_)
  apply S.ret rr39
  case hx => repeat (first | exact ResAt.nil | apply ResAt.tmp rfl)
  exact ⟨b, hb, rfl, rfl⟩
end Go.Proofs.Ytdinnoejipmiiaa

namespace Go.Proofs.Ytdinnoejipmiiaa
open Go.Av
def toksA (l : List Tok) (c : Cap) : AV := .sl 4 (l.map Pa.Tok.cells) c
def allAns (r : List Tok × Option (Int × Nat)) : AV :=
  match r.2 with
  | none => .tu [toksA r.1 .ro, i64 0, i64 0]
  | some (e, pos) => .tu [toksA [] .ro, i64 pos, i64 e]
def r18b0 : RCode :=
  (.block 1
   (.seq (.seq (.region [
     ⟨(some 12), none, .act, .mv (.tmp 7)⟩,
     ⟨(some 13), none, .act, .eq true .int (.tmp 12) (.const (.int .i64 0))⟩])
   (.cond (.tmp 13)
    (.seq (.regionT (.step ⟨(some 14), none, .pure, .fieldAddr 3 (.tmp 6)⟩ (.step ⟨(some 16), none, .pure, .mv (.tmp 7)⟩ (.alt ⟨(some 15), none, .read, .load false 1 (.tmp 14)⟩ (.alt ⟨none, none, .act, .store 1 (.tmp 2) (.const (.slice none 0 0))⟩ (.alt ⟨none, none, .act, .store 1 (.tmp 3) (.tmp 15)⟩ (.alt ⟨none, none, .act, .store 1 (.tmp 4) (.tmp 16)⟩ .done
    .stop)
    .stop)
    .stop)
    (.alt ⟨none, none, .act, .store 1 (.tmp 2) (.const (.slice none 0 0))⟩ (.step ⟨(some 15), none, .read, .load false 1 (.tmp 14)⟩ (.alt ⟨none, none, .act, .store 1 (.tmp 3) (.tmp 15)⟩ (.alt ⟨none, none, .act, .store 1 (.tmp 4) (.tmp 16)⟩ .done
    .stop)
    .stop))
    .stop)))))
    .ret)
    .skip))
   (.region [
     ⟨(some 17), none, .act, .load false 1 (.tmp 5)⟩,
     ⟨(some 18), none, .act, .load true 4 (.tmp 6)⟩,
     ⟨(some 19), none, .act, .buildSl 4 [(.int .i64 0), (.string ⟨#[]⟩), (.int .i64 0), (.int .i64 0)] 1 [(0, (.tmp 18))]⟩,
     ⟨(some 20), none, .act, .append 4 40 [(.int .i64 0), (.string ⟨#[]⟩), (.int .i64 0), (.int .i64 0)] (.tmp 17) (.tmp 19)⟩,
     ⟨none, none, .act, .store 1 (.tmp 5) (.tmp 20)⟩])))
def r18 : RCode :=
  (.seq (.region [
    ⟨(some 2), none, .act, .alloc [(.slice none 0 0)]⟩,
    ⟨(some 3), none, .act, .alloc [(.int .i64 0)]⟩,
    ⟨(some 4), none, .act, .alloc [(.int .i64 0)]⟩])
  (.seq (.region [
    ⟨(some 5), none, .act, .alloc [(.slice none 0 0)]⟩])
  (.seq (.seq (.region [
    ⟨(some 8), none, .act, .mv (.tmp 0)⟩,
    ⟨(some 9), none, .act, .call 39 [(.tmp 8)]⟩])
  (.block 0
   (.rangeFunc (.tmp 9) #[10, 11] (.seq (.region [
    ⟨(some 6), none, .act, .alloc [(.int .i64 0), (.string ⟨#[]⟩), (.int .i64 0), (.int .i64 0)]⟩,
    ⟨none, none, .act, .store 4 (.tmp 6) (.tmp 10)⟩])
  (.region [
    ⟨(some 7), none, .act, .mv (.tmp 11)⟩])) r18b0)))
  (.seq (.region [
    ⟨(some 21), none, .act, .load false 1 (.tmp 5)⟩,
    ⟨none, none, .act, .store 1 (.tmp 2) (.tmp 21)⟩,
    ⟨none, none, .act, .store 1 (.tmp 3) (.const (.int .i64 0))⟩,
    ⟨none, none, .act, .store 1 (.tmp 4) (.const (.int .i64 0))⟩])
  .ret))))
theorem res18 : ∃ c, Try.f18.body = some c ∧ resCode Try.prog 22 c = some r18 := ⟨_, rfl, by kernel_rfl⟩
theorem rr18 : resRes Try.prog Try.f18.results.toList = some [.cell 2 false 1, .cell 3 false 1, .cell 4 false 1] := by kernel_rfl
def AllI (L : List (Nat × AV)) (cx cy : Code) (ts : List Tok) (l b2 b3 b4 b5 : Nat) (k : Nat) (C : Nat → Prop) (h : AHeap) : Prop :=
  k ≤ ts.length ∧ ∃ c, h l = some (.loop (loop0 L 22 #[10, 11] cx cy)) ∧ h b5 = some (.box [toksA (ts.take k) c]) ∧ OwnT h c ∧ h b2 = some (.box [.v (.slice none 0 0)]) ∧ h b3 = some (.box [i64 0]) ∧ h b4 = some (.box [i64 0]) ∧
    ∀ x, C x ↔ (x = l ∨ x = b2 ∨ x = b3 ∨ x = b4 ∨ x = b5 ∨ TokC c x)
def AllZ (L : List (Nat × AV)) (cx cy : Code) (e : Int) (pos : Nat) (l b2 b3 b4 : Nat) (C : Nat → Prop) (h : AHeap) : Prop :=
  h l = some (.loop { loop0 L 22 #[10, 11] cx cy with state := .done, pending := some .ret }) ∧ h b2 = some (.box [.v (.slice none 0 0)]) ∧ h b3 = some (.box [i64 pos]) ∧ h b4 = some (.box [i64 e]) ∧ ¬ e = 0
theorem allI_client (L : List (Nat × AV)) (cx cy : Code) (ts : List Tok) (l b2 b3 b4 b5 : Nat) (k : Nat) : Client (AllI L cx cy ts l b2 b3 b4 b5 k) where
  own := by
    rintro C h ⟨_, c, h1, h2, h3, h4, h5, h6, h7⟩ x hx
    rcases (h7 x).1 hx with rfl | rfl | rfl | rfl | rfl | ht
    · rw [h1]; simp
    · rw [h4]; simp
    · rw [h5]; simp
    · rw [h6]; simp
    · rw [h2]; simp
    · exact ownT_own h3 x ht
  loc := by
    rintro C h h' ⟨h0, c, h1, h2, h3, h4, h5, h6, h7⟩ hl
    refine ⟨h0, c, ?_, ?_, ownT_loc h3 fun x hx => hl x ((h7 x).2 (.inr (.inr (.inr (.inr (.inr hx)))))), ?_, ?_, ?_, h7⟩
    · rw [hl l ((h7 l).2 (.inl rfl))]; exact h1
    · rw [hl b5 ((h7 b5).2 (by simp))]; exact h2
    · rw [hl b2 ((h7 b2).2 (by simp))]; exact h4
    · rw [hl b3 ((h7 b3).2 (by simp))]; exact h5
    · rw [hl b4 ((h7 b4).2 (by simp))]; exact h6
theorem one_tok (t : Tok) : ∀ e ∈ [t.cells], ∀ a ∈ e, a.one = true := by
  intro e he a ha
  simp only [List.mem_singleton] at he
  subst he
  simp only [Pa.Tok.cells, List.mem_cons, List.not_mem_nil, or_false] at ha
  rcases ha with rfl | rfl | rfl | rfl <;> rfl
theorem cutF_len : ∀ (f : Nat) (t : List UInt8) (i n : Nat), n ≤ 400 → (cutF f t i n).1.length ≤ 400 - n := by
  intro f
  induction f with
  | zero => intro t i n hn; simp [cutF]
  | succ f ih =>
    intro t i n hn
    by_cases h1 : t.drop (blanks t) = []
    · rw [cutF_end h1]; simp
    · by_cases h2 : n = 400
      · rw [cutF_long h1 h2]; simp
      · cases h3 : (nextR (t.drop (blanks t))).2.1 with
        | false => rw [cutF_bad h1 h2 h3]; simp
        | true =>
          rw [cutF_tok h1 h2 h3]
          have := ih ((t.drop (blanks t)).drop (nextR (t.drop (blanks t))).2.2) (i + blanks t + (nextR (t.drop (blanks t))).2.2) (n + 1) (by omega)
          simp only [List.length_cons]; omega
def asgAll : RCode := .seq (.region [⟨(some 6), none, .act, .alloc [(.int .i64 0), (.string ⟨#[]⟩), (.int .i64 0), (.int .i64 0)]⟩, ⟨none, none, .act, .store 4 (.tmp 6) (.tmp 10)⟩]) (.region [⟨(some 7), none, .act, .mv (.tmp 11)⟩])
def allL (clo : AV) (b2 b3 b4 b5 : Nat) : List (Nat × AV) := [(9, clo), (2, ptr b2), (3, ptr b3), (4, ptr b4), (5, ptr b5)]
theorem all_round (clo : AV) (cx cy : Code) (ts : List Tok) (hts : ts.length ≤ 400) (l b2 b3 b4 b5 : Nat) (hd : l ≠ b2 ∧ l ≠ b3 ∧ l ≠ b4 ∧ l ≠ b5 ∧ b2 ≠ b5 ∧ b3 ≠ b5 ∧ b4 ≠ b5)
    (hx : Resd Try.prog 22 cx asgAll) (hy : Resd Try.prog 22 cy r18b0)
    (k : Nat) (t : Tok) (ht : ts[k]? = some t) (C : Nat → Prop) (h : AHeap) (hI : AllI (allL clo b2 b3 b4 b5) cx cy ts l b2 b3 b4 b5 k C h) (Z : (Nat → Prop) → AHeap → Prop) :
    YStep Try.prog l [.ag t.cells, i64 0] C h (AllI (allL clo b2 b3 b4 b5) cx cy ts l b2 b3 b4 b5 (k + 1)) Z := by
  obtain ⟨hk, c, h1, h2, h3, h4, h5, h6, h7⟩ := hI
  obtain ⟨d2, d3, d4, d5, e2, e3, e4⟩ := hd
  have d5' := Ne.symm d5
  have hkl : k < ts.length := (List.getElem?_eq_some_iff.1 ht).1
  have htl : (ts.take k).length = k := by simp; omega
  refine AYield.mk h1 hx hy rfl rfl rfl ?_
  unfold asgAll
  repeat' (first | (refine S.begin (by (repeat' (first | assumption | refine AHeap.get_fresh ‹_› ?_)); first | done | fail) rfl ?_) | refine S.nilK ?_ | (refine S.op rfl ?_; first | refine R.mv rfl ?_ | refine R.load (by decide) rfl (by (repeat' (first | assumption | exact AHeap.set_same _ _ _ | refine AHeap.get_fresh ‹_› ?_ | refine AHeap.so ?_ ?_ | exact AHeap.n4 ‹_› ‹_›)); first | done | fail) rfl ?_ | refine R.alloc rfl (fun b hb => ?_) | refine R.buildSl rfl rfl rfl (by decide) ?_ | ((first | refine S.eqInt rfl rfl ?_ ?_) <;> intro hlt <;> try (exfalso; omega))) | (refine S.op0 rfl ?_; first | refine S.storeS rfl rfl rfl (by rfl) rfl (by first | decide | exact Nat.le_refl _ | exact Nat.le_of_ble_eq_true rfl) ?_) | refine S.seq ?_ | refine S.region ?_ | refine S.condF rfl ?_ | refine RRun.skip ?_ | refine RRun.block ?_)
  have hlb : l ≠ b := AHeap.ne_of hb h1
  have hb5 : b5 ≠ b := AHeap.ne_of hb h2
  have hCx : ∀ x, C x → x ≠ b := fun x hx e => (allI_client (allL clo b2 b3 b4 b5) cx cy ts l b2 b3 b4 b5 k).own C h ⟨hk, c, h1, h2, h3, h4, h5, h6, h7⟩ x hx (e ▸ hb)
  have htk : ∀ x, TokC c x → x ≠ b ∧ x ≠ l := fun x hx => ⟨hCx x ((h7 x).2 (by simp [hx])), fun e => by
    obtain ⟨u, s, e2⟩ := hx
    rcases h3 with e3 | ⟨b', u', s', e3, e4⟩
    · rw [e3] at e2; cases e2
    · rw [e3] at e2; cases e2; rw [e, h1] at e4; cases e4⟩
  refine S.op rfl (S.appendT (ys := [t.cells]) rfl ?_ rfl (.sl _ _) rfl (.sl _ _) (one_tok t) ?_ ?_ fun c' h' g1 g2 g3 => ?_)
  · exact ownT_loc h3 fun x hx => by simp only [AHeap.set, (htk x hx).1, (htk x hx).2, if_false]
  · simp only [List.length_map, htl, List.length_singleton]; omega
  · simp only [List.length_map, htl, List.length_singleton]; omega
  have keep : ∀ x o, h x = some o → x ≠ l → ¬ TokC c x → h' x = some o := fun x o e hxl hn => by
    have hxb : x ≠ b := AHeap.ne_of hb e
    exact g2 x o (by simp only [AHeap.set, hxb, hxl, if_false]; exact e) hn
  have hl' := g2 l _ (AHeap.set_same _ _ _) (fun hx => (htk l hx).2 rfl)
  have ntok : ∀ x cs, h x = some (.box cs) → ¬ TokC c x := fun x cs e ⟨u, s, e2⟩ => by
    rcases h3 with e3 | ⟨b', u', s', e3, e4⟩
    · rw [e3] at e2; cases e2
    · rw [e3] at e2; cases e2; rw [e] at e4; cases e4
  have k2 := keep b2 _ h4 (Ne.symm d2) (ntok _ _ h4)
  have k3 := keep b3 _ h5 (Ne.symm d3) (ntok _ _ h5)
  have k4 := keep b4 _ h6 (Ne.symm d4) (ntok _ _ h6)
  have k5 := keep b5 _ h2 d5' (ntok _ _ h2)
  repeat' (first | refine S.nilK ?_ | (refine S.op0 rfl ?_; first | refine S.store rfl rfl (by (repeat' (first | assumption)); first | done | fail) rfl rfl rfl (by rfl) rfl ?_) | refine RRun.inBlock ?_)
  refine RRunG.done ?_
  have htake : ts.take (k + 1) = ts.take k ++ [t] := by rw [List.take_add_one, ht]; rfl
  have ntok' : ∀ x o, h' x = some o → (∀ u s, o ≠ .grow u s) → ¬ TokC c' x := fun x o e hg ⟨u, s, e2⟩ => by
    rcases g1 with e3 | ⟨b', u', s', e3, e4⟩
    · rw [e3] at e2; cases e2
    · rw [e3] at e2; cases e2; rw [e] at e4; cases e4; exact hg _ _ rfl
  have htk' : ∀ x, TokC c' x → x ≠ b5 ∧ x ≠ l := fun x hx => ⟨fun e => ntok' b5 _ k5 (by simp) (e ▸ hx), fun e => ntok' l _ hl' (by simp) (e ▸ hx)⟩
  refine ⟨_, (AHeap.set_other _ _ d5).trans hl', fun x => (x = l ∨ x = b2 ∨ x = b3 ∨ x = b4 ∨ x = b5 ∨ TokC c' x), ?_, ?_, ?_⟩
  · intro x hx
    rcases hx with e | e | e | e | e | e
    · exact .inl ((h7 x).2 (.inl e))
    · exact .inl ((h7 x).2 (by simp [e]))
    · exact .inl ((h7 x).2 (by simp [e]))
    · exact .inl ((h7 x).2 (by simp [e]))
    · exact .inl ((h7 x).2 (by simp [e]))
    · rcases g3 x e with e | e
      · exact .inl ((h7 x).2 (by simp [e]))
      · exact .inr (AHeap.z2 e)
  · intro x o e hn
    have hn' : ¬ (x = l ∨ x = b2 ∨ x = b3 ∨ x = b4 ∨ x = b5 ∨ TokC c x) := fun q => hn ((h7 x).2 q)
    have x1 : x ≠ l := fun e => hn' (.inl e)
    have x5 : x ≠ b5 := fun e => hn' (by simp [e])
    simp only [AHeap.set, x1, x5, if_false]
    exact keep x o e x1 fun q => hn' (by simp [q])
  · show AllI _ _ _ _ _ _ _ _ _ _ _ _
    refine ⟨hkl, c', AHeap.set_same _ _ _, ?_, ?_, ?_, ?_, ?_, fun x => Iff.rfl⟩
    · refine (AHeap.set_other _ _ d5').trans ((AHeap.set_same _ _ _).trans ?_)
      rw [htake]
      simp only [toksA, List.map_append, List.map_cons, List.map_nil]
      rfl
    · exact ownT_loc g1 fun x hx => by simp only [AHeap.set, (htk' x hx).1, (htk' x hx).2, if_false]
    · simp only [AHeap.set, Ne.symm d2, e2, if_false]; exact k2
    · simp only [AHeap.set, Ne.symm d3, e3, if_false]; exact k3
    · simp only [AHeap.set, Ne.symm d4, e4, if_false]; exact k4
theorem all_round_err (clo : AV) (cx cy : Code) (ts : List Tok) (l b2 b3 b4 b5 : Nat) (hd : l ≠ b2 ∧ l ≠ b3 ∧ l ≠ b4 ∧ b2 ≠ b3 ∧ b2 ≠ b4 ∧ b3 ≠ b4)
    (hx : Resd Try.prog 22 cx asgAll) (hy : Resd Try.prog 22 cy r18b0)
    (k : Nat) (e : Int) (he : ¬ e = 0) (pos : Nat) (C : Nat → Prop) (h : AHeap) (hI : AllI (allL clo b2 b3 b4 b5) cx cy ts l b2 b3 b4 b5 k C h) (N : (Nat → Prop) → AHeap → Prop) :
    YStep Try.prog l [.ag (errTok pos).cells, i64 e] C h N (AllZ (allL clo b2 b3 b4 b5) cx cy e pos l b2 b3 b4) := by
  have hI' := hI
  obtain ⟨hk, c, h1, h2, h3, h4, h5, h6, h7⟩ := hI
  obtain ⟨d2, d3, d4, e1, e2, e3⟩ := hd
  have d2' := Ne.symm d2
  have d3' := Ne.symm d3
  have d4' := Ne.symm d4
  have e1' := Ne.symm e1
  have e2' := Ne.symm e2
  have e3' := Ne.symm e3
  refine AYield.mk h1 hx hy rfl rfl rfl ?_
  unfold asgAll
  repeat' (first | (refine S.begin (by (repeat' (first | assumption | refine AHeap.get_fresh ‹_› ?_)); first | done | fail) rfl ?_) | refine S.nilK ?_ | (refine S.op rfl ?_; first | refine R.mv rfl ?_ | refine R.fieldAddr rfl ?_ | refine R.load (by decide) rfl (by (repeat' (first | exact AHeap.set_same _ _ _ | refine AHeap.so ?_ ?_ | exact AHeap.n4 ‹_› ‹_›)); first | done | fail) rfl ?_ | refine R.alloc rfl (fun b hb => ?_) | ((first | refine S.eqInt rfl rfl ?_ ?_) <;> intro hlt <;> try (exfalso; omega))) | (refine S.op0 rfl ?_; first | refine S.storeS rfl rfl rfl (by rfl) rfl (by first | decide | exact Nat.le_refl _ | exact Nat.le_of_ble_eq_true rfl) ?_ | refine S.store rfl rfl (by (repeat' (first | assumption | refine AHeap.get_fresh ‹_› ?_ | refine AHeap.so ?_ ?_)); first | done | fail) rfl rfl rfl (by rfl) rfl ?_) | refine S.seq ?_ | refine S.region ?_ | refine S.regionT ?_ | refine S.talt ?_ ?_ | exact S.tstop | refine S.tdone ?_ | refine S.condT rfl ?_ | refine RRun.block ?_)
  all_goals
    have n2 : b2 ≠ b := AHeap.ne_of hb h4
    have n3 : b3 ≠ b := AHeap.ne_of hb h5
    have n4 : b4 ≠ b := AHeap.ne_of hb h6
    have nl : l ≠ b := AHeap.ne_of hb h1
    refine RRunG.ret ?_
    refine ⟨_, (by (repeat' (first | assumption | exact AHeap.set_same _ _ _ | refine AHeap.so ?_ ?_)); first | done | fail), C, fun x hx => .inl hx, ?_, ?_⟩
    · intro x o e hn
      have hn' : ¬ (x = l ∨ x = b2 ∨ x = b3 ∨ x = b4 ∨ x = b5 ∨ TokC c x) := fun q => hn ((h7 x).2 q)
      have x1 : x ≠ l := fun e => hn' (.inl e)
      have x2 : x ≠ b2 := fun e => hn' (by simp [e])
      have x3 : x ≠ b3 := fun e => hn' (by simp [e])
      have x4 : x ≠ b4 := fun e => hn' (by simp [e])
      have xb : x ≠ b := AHeap.ne_of hb e
      simp only [AHeap.set, x1, x2, x3, x4, xb, if_false]
      exact e
    · show AllZ _ _ _ _ _ _ _ _ _ C _
      refine ⟨AHeap.set_same _ _ _, ?_, ?_, ?_, he⟩
      · simp [AHeap.set, d2', e1, e2, n2, h4, over]
      · simp [AHeap.set, d3', e1', e3, n3, h5, over, errTok]
      · simp [AHeap.set, d4', e2', e3', n4, h6, over]
theorem yields_get {r : List Tok × Option (Int × Nat)} {j : Nat} {vs : List AV} (h : (yields r)[j]? = some vs) : (∃ t, r.1[j]? = some t ∧ vs = [.ag t.cells, i64 0]) ∨ (j = r.1.length ∧ ∃ e pos, r.2 = some (e, pos) ∧ vs = [.ag (errTok pos).cells, i64 e]) := by
  unfold yields at h
  rw [List.getElem?_append] at h
  split at h
  · rw [List.getElem?_map] at h
    cases ht : r.1[j]? with
    | none => rw [ht] at h; cases h
    | some t => rw [ht] at h; cases h; exact .inl ⟨t, rfl, rfl⟩
  · rename_i hge
    simp only [List.length_map] at h hge
    cases h2 : r.2 with
    | none => rw [h2] at h; simp at h
    | some ep =>
      obtain ⟨e, pos⟩ := ep
      rw [h2] at h
      simp only at h
      have : j - r.1.length = 0 := by
        rcases Nat.eq_zero_or_pos (j - r.1.length) with hz | hz
        · exact hz
        · rw [List.getElem?_eq_none (by simp; omega)] at h; cases h
      rw [this] at h
      cases h
      exact .inr ⟨by omega, e, pos, rfl, rfl⟩
theorem cutF_err : ∀ (f : Nat) (t : List UInt8) (i n : Nat) (e : Int) (pos : Nat), (cutF f t i n).2 = some (e, pos) → e = 2 ∨ e = 190 := by
  intro f
  induction f with
  | zero => intro t i n e pos h; simp [cutF] at h
  | succ f ih =>
    intro t i n e pos h
    by_cases h1 : t.drop (blanks t) = []
    · rw [cutF_end h1] at h; cases h
    · by_cases h2 : n = 400
      · rw [cutF_long h1 h2] at h; cases h; exact .inl rfl
      · cases h3 : (nextR (t.drop (blanks t))).2.1 with
        | false => rw [cutF_bad h1 h2 h3] at h; cases h; exact .inr rfl
        | true => rw [cutF_tok h1 h2 h3] at h; exact ih _ _ _ _ _ h
theorem all_spec (s : List UInt8) (hs : s.length ≤ 2000000) (h : AHeap) : ACalls Try.prog 18 [str s] h (fun x h' => x = allAns (cutS s) ∧ h' = h) := by
  obtain ⟨c, hc1, hc2⟩ := res18
  refine ACalls.weak (ACalls.enter Try.func18 hc1 Try.ntmps18 hc2 (Nat.le_of_ble_eq_true rfl) rfl ?_)
  repeat' (first | refine S.nilK ?_ | (refine S.op rfl ?_; first | refine R.mv rfl ?_ | refine R.alloc rfl (fun b hb => ?_)) | refine S.seq ?_ | refine S.region ?_)
  refine S.op rfl (R.call rfl rfl ((tokens_fn s _).mono ?_))
  rintro x h' ⟨q, hq, rfl, rfl⟩
  repeat' (first | refine S.nilK ?_ | refine RRun.block ?_)
  rename_i b2 hb2 b3 hb3 b4 hb4
  have m32 : b3 ≠ b2 := AHeap.n1 hb3
  have m42 : b4 ≠ b2 := AHeap.n5 hb4
  have m43 : b4 ≠ b3 := AHeap.n1 hb4
  have m52 : b ≠ b2 := AHeap.n1 (AHeap.z2 hb) 
  have m53 : b ≠ b3 := AHeap.n5 hb
  have m54 : b ≠ b4 := AHeap.n1 hb
  have mq5 : q ≠ b := AHeap.n1 hq
  have mq4 : q ≠ b4 := AHeap.n5 hq
  have mq3 : q ≠ b3 := AHeap.n5 (AHeap.z1 hq)
  have mq2 : q ≠ b2 := AHeap.n1 (AHeap.z3 hq)
  have f3 : h b3 = none := AHeap.z1 hb3
  have f4 : h b4 = none := AHeap.z2 hb4
  have f5 : h b = none := AHeap.z3 hb
  have fq : h q = none := AHeap.z1 (AHeap.z3 hq)
  refine RRun.sub (AHeap.le.both (box_le (.box (ys := [toksA [] .full]) (.cons (.nilSl 4 trivial) .nil))) q _) ?_
  refine S.keep [9, 2, 3, 4, 5] rfl ?_
  refine S.rangeFunc rfl (FnIs.v 54 #[] #[.pointer (some ⟨q, 0, none⟩)]) rfl (fun l0 e => by cases e) fun cx cy hx hy l hl => ?_
  have fl : h l = none ∧ l ≠ b2 ∧ l ≠ b3 ∧ l ≠ b4 ∧ l ≠ b ∧ l ≠ q := by
    have g1 := AHeap.fresh_set hl
    have g2 := AHeap.fresh_set g1.2
    have g3 := AHeap.fresh_set g2.2
    have g4 := AHeap.fresh_set g3.2
    have g5 := AHeap.fresh_set g4.2
    exact ⟨g5.2, g5.1, g4.1, g3.1, g2.1, g1.1⟩
  obtain ⟨fl, l2, l3, l4, l5, lq⟩ := fl
  have hlen := cutF_len (s.length + 1) s 0 0 (by decide)
  generalize hH : AHeap.set _ l (.loop (loop0 _ 22 #[10, 11] cx cy)) = H
  have H0 : ∀ x o, h x = some o → H x = some o := fun x o e => by
    have e2 : x ≠ b2 := AHeap.ne_of hb2 e
    have e3 : x ≠ b3 := AHeap.ne_of f3 e
    have e4 : x ≠ b4 := AHeap.ne_of f4 e
    have e5 : x ≠ b := AHeap.ne_of f5 e
    have eq : x ≠ q := AHeap.ne_of fq e
    have el : x ≠ l := AHeap.ne_of fl e
    rw [← hH]; simp only [AHeap.set, e2, e3, e4, e5, eq, el, if_false]; exact e
  have I0 : AllI (allL (.v (.func (.func 54) #[] #[.pointer (some ⟨q, 0, none⟩)])) b2 b3 b4 b) cx cy (cutS s).1 l b2 b3 b4 b 0 (fun x => x = l ∨ x = b2 ∨ x = b3 ∨ x = b4 ∨ x = b) H := by
    rw [← hH]
    refine ⟨Nat.zero_le _, .full, AHeap.set_same _ _ _, ?_, .inl rfl, ?_, ?_, ?_, fun x => ?_⟩
    · simp [AHeap.set, Ne.symm l5, Ne.symm mq5]
    · simp [AHeap.set, Ne.symm l2, Ne.symm mq2, Ne.symm m52, Ne.symm m42, Ne.symm m32]
    · simp [AHeap.set, Ne.symm l3, Ne.symm mq3, Ne.symm m53, Ne.symm m43]
    · simp [AHeap.set, Ne.symm l4, Ne.symm mq4, Ne.symm m54]
    · constructor
      · rintro (e | e | e | e | e) <;> simp [e]
      · rintro (e | e | e | e | e | ⟨u, s, e⟩)
        · simp [e]
        · simp [e]
        · simp [e]
        · simp [e]
        · simp [e]
        · cases e
  have hq0 : H q = some (.box [str s]) := by rw [← hH]; simp [AHeap.set, Ne.symm lq]
  refine (tokens_spec s hs l q H (fun x => x = l ∨ x = b2 ∨ x = b3 ∨ x = b4 ∨ x = b) (AllI (allL (.v (.func (.func 54) #[] #[.pointer (some ⟨q, 0, none⟩)])) b2 b3 b4 b) cx cy (cutS s).1 l b2 b3 b4 b)
    (fun C h => ∃ e pos, (cutS s).2 = some (e, pos) ∧ AllZ (allL (.v (.func (.func 54) #[] #[.pointer (some ⟨q, 0, none⟩)])) b2 b3 b4 b) cx cy e pos l b2 b3 b4 C h) (allI_client _ cx cy (cutS s).1 l b2 b3 b4 b) ?_ I0 hq0 (by rintro (e | e | e | e | e) <;> simp_all)).mono ?_
  · intro j vs hj C g hg
    rcases yields_get hj with ⟨t, ht, rfl⟩ | ⟨hj, e, pos, he, rfl⟩
    · exact all_round _ cx cy _ hlen l b2 b3 b4 b ⟨l2, l3, l4, l5, Ne.symm m52, Ne.symm m53, Ne.symm m54⟩ hx hy j t ht C g hg _
    · have hne : ¬ e = 0 := by rcases cutF_err _ _ _ _ e pos he with h1 | h1 <;> omega
      refine AYield.mono (all_round_err _ cx cy _ l b2 b3 b4 b ⟨l2, l3, l4, Ne.symm m32, Ne.symm m42, Ne.symm m43⟩ hx hy j e hne pos C g hg (AllI (allL (.v (.func (.func 54) #[] #[.pointer (some ⟨q, 0, none⟩)])) b2 b3 b4 b) cx cy (cutS s).1 l b2 b3 b4 b (j + 1))) ?_
      rintro bb h' ⟨C', q1, q2, q3⟩
      refine ⟨C', q1, q2, ?_⟩
      cases bb
      · exact ⟨e, pos, he, q3⟩
      · exact q3
  · rintro x h' ⟨C, hor, hF, hC⟩
    have hle : ∀ x o, h x = some o → h' x = some o := fun x o e => hF x o (H0 x o e) (by
      rintro (e' | e' | e' | e' | e') <;> subst e'
      · rw [fl] at e; cases e
      · rw [hb2] at e; cases e
      · rw [f3] at e; cases e
      · rw [f4] at e; cases e
      · rw [f5] at e; cases e)
    rcases hor with ⟨hk, c, h1, h2, h3, h4, h5, h6, _⟩ | ⟨e, pos, he, h1, h2, h3, h4, hne⟩
    · have hy0 : (yields (cutS s)).length = (cutS s).1.length + (match (cutS s).2 with | none => 0 | some _ => 1) := by
        unfold yields
        cases (cutS s).2 <;> simp
      cases he : (cutS s).2 with
      | some ep => rw [hy0, he] at hk; simp only at hk; omega
      | none =>
        rw [hy0, he] at h2
        simp only [Nat.add_zero, List.take_length] at h2
        refine ⟨_, h1, by simp, ?_⟩
        show RRunG _ _ _ _ _ _ _
        have D5 := (AHeap.del_other h' (Ne.symm l5)).trans h2
        have D2 := (AHeap.del_other h' (Ne.symm l2)).trans h4
        have D3 := (AHeap.del_other h' (Ne.symm l3)).trans h5
        have D4 := (AHeap.del_other h' (Ne.symm l4)).trans h6
        have HD : ∀ x o, h x = some o → h'.del l x = some o := fun x o e => (AHeap.del_other h' (AHeap.ne_of fl e)).trans (hle x o e)
        generalize h'.del l = D at D5 D2 D3 D4 HD ⊢
        repeat' (first | refine S.nilK ?_ | (refine S.op rfl ?_; first | refine R.load (by decide) rfl (by (repeat' (first | assumption)); first | done | fail) rfl ?_) | (refine S.op0 rfl ?_; first | refine S.store rfl rfl (by (repeat' (first | assumption | refine AHeap.so ?_ ?_)); first | done | fail) rfl rfl rfl (by rfl) rfl ?_) | refine S.seq ?_ | refine S.region ?_ | refine RRun.inBlock ?_)
        apply S.ret rr18
        case hx => repeat (first | exact ResAt.nil | apply ResAt.cell1 rfl (by (repeat' (first | exact AHeap.set_same _ _ _ | refine AHeap.so ?_ ?_ | exact AHeap.n2 ‹_› | exact AHeap.n6 ‹_›)); first | done | fail) (by rfl))
        have hans : allAns (cutS s) = .tu [toksA (cutS s).1 .ro, i64 0, i64 0] := by simp [allAns, he]
        refine ⟨allAns (cutS s), h, ?_, fun x o e => ⟨o, ?_, .refl o⟩, rfl, rfl⟩
        · rw [hans]; exact .tu (.cons (.toRo _ _ _) (.refl _))
        · simp only [AHeap.set, AHeap.ne_of hb2 e, AHeap.ne_of f3 e, AHeap.ne_of f4 e, if_false]; exact HD x o e
    · refine ⟨_, h1, by simp, ?_⟩
      show RRunG _ _ _ _ _ _ _
      have D2 := (AHeap.del_other h' (Ne.symm l2)).trans h2
      have D3 := (AHeap.del_other h' (Ne.symm l3)).trans h3
      have D4 := (AHeap.del_other h' (Ne.symm l4)).trans h4
      have HD : ∀ x o, h x = some o → h'.del l x = some o := fun x o e => (AHeap.del_other h' (AHeap.ne_of fl e)).trans (hle x o e)
      generalize h'.del l = D at D2 D3 D4 HD ⊢
      apply S.ret rr18
      case hx => repeat (first | exact ResAt.nil | apply ResAt.cell1 rfl (by (repeat' (first | assumption)); first | done | fail) (by rfl))
      have hans : allAns (cutS s) = .tu [toksA [] .ro, i64 pos, i64 e] := by simp [allAns, he]
      refine ⟨allAns (cutS s), h, ?_, fun x o e => ⟨o, ?_, .refl o⟩, rfl, rfl⟩
      · rw [hans]; exact .tu (.cons (.nilSl 4 (c := .ro) trivial) (.refl _))
      · exact HD x o e
end Go.Proofs.Ytdinnoejipmiiaa
