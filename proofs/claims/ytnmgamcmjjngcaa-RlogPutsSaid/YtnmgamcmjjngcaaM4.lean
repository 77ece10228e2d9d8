import Derived.Test.YtnmgamcmjjngcaaM3
set_option linter.unusedVariables false
set_option linter.unusedSimpArgs false
namespace Go.Proofs.Ytnmgamcmjjngcaa
open Go.Av
open Go.Sort (swp PermIn SortedIn Below SWO)


/-! ### nextPowerOfTwo -/
def lenTab : List UInt8 := [0, 1, 2, 2, 3, 3, 3, 3, 4, 4, 4, 4, 4, 4, 4, 4, 5, 5, 5, 5, 5, 5, 5, 5, 5, 5, 5, 5, 5, 5, 5, 5, 6, 6, 6, 6, 6, 6, 6, 6, 6, 6, 6, 6, 6, 6, 6, 6, 6, 6, 6, 6, 6, 6, 6, 6, 6, 6, 6, 6, 6, 6, 6, 6, 7, 7, 7, 7, 7, 7, 7, 7, 7, 7, 7, 7, 7, 7, 7, 7, 7, 7, 7, 7, 7, 7, 7, 7, 7, 7, 7, 7, 7, 7, 7, 7, 7, 7, 7, 7, 7, 7, 7, 7, 7, 7, 7, 7, 7, 7, 7, 7, 7, 7, 7, 7, 7, 7, 7, 7, 7, 7, 7, 7, 7, 7, 7, 7, 8, 8, 8, 8, 8, 8, 8, 8, 8, 8, 8, 8, 8, 8, 8, 8, 8, 8, 8, 8, 8, 8, 8, 8, 8, 8, 8, 8, 8, 8, 8, 8, 8, 8, 8, 8, 8, 8, 8, 8, 8, 8, 8, 8, 8, 8, 8, 8, 8, 8, 8, 8, 8, 8, 8, 8, 8, 8, 8, 8, 8, 8, 8, 8, 8, 8, 8, 8, 8, 8, 8, 8, 8, 8, 8, 8, 8, 8, 8, 8, 8, 8, 8, 8, 8, 8, 8, 8, 8, 8, 8, 8, 8, 8, 8, 8, 8, 8, 8, 8, 8, 8, 8, 8, 8, 8, 8, 8, 8, 8, 8, 8, 8, 8, 8, 8, 8, 8, 8, 8, 8, 8, 8, 8, 8, 8, 8, 8]

theorem lenTab_get : ∀ n, n < 50 → 8 ≤ n → (lenTab[n]? = some 4 ∧ n ≤ 15) ∨ (lenTab[n]? = some 5 ∧ 16 ≤ n ∧ n ≤ 31) ∨ (lenTab[n]? = some 6 ∧ 32 ≤ n) := by decide

theorem wrap_u8_small {n : Nat} (h : n < 256) : IntKind.u8.wrap (n : Int) = (n : Int) := wrap_u8N h

/-- math/bits.Len64 -/
def r117 : RCode :=
  (.seq (.region [
    ⟨(some 2), none, .act, .mv (.const (.int .i64 0))⟩])
  (.seq (.seq (.region [
    ⟨(some 3), none, .act, .mv (.tmp 0)⟩,
    ⟨(some 4), none, .act, .bin .geq (.tmp 3) (.const (.int .u64 4294967296))⟩])
  (.cond (.tmp 4)
   (.seq (.region [
     ⟨(some 5), none, .act, .mv (.tmp 0)⟩,
     ⟨(some 6), none, .act, .bin .shr (.tmp 5) (.const (.int .u64 32))⟩,
     ⟨(some 0), none, .act, .mv (.tmp 6)⟩])
   (.region [
     ⟨(some 2), none, .act, .mv (.const (.int .i64 32))⟩]))
   .skip))
  (.seq (.seq (.region [
    ⟨(some 7), none, .act, .mv (.tmp 0)⟩,
    ⟨(some 8), none, .act, .bin .geq (.tmp 7) (.const (.int .u64 65536))⟩])
  (.cond (.tmp 8)
   (.seq (.region [
     ⟨(some 9), none, .act, .mv (.tmp 0)⟩,
     ⟨(some 10), none, .act, .bin .shr (.tmp 9) (.const (.int .u64 16))⟩,
     ⟨(some 0), none, .act, .mv (.tmp 10)⟩])
   (.region [
     ⟨(some 11), none, .act, .mv (.tmp 2)⟩,
     ⟨(some 12), none, .act, .bin .add (.tmp 11) (.const (.int .i64 16))⟩,
     ⟨(some 2), none, .act, .mv (.tmp 12)⟩]))
   .skip))
  (.seq (.seq (.region [
    ⟨(some 13), none, .act, .mv (.tmp 0)⟩,
    ⟨(some 14), none, .act, .bin .geq (.tmp 13) (.const (.int .u64 256))⟩])
  (.cond (.tmp 14)
   (.seq (.region [
     ⟨(some 15), none, .act, .mv (.tmp 0)⟩,
     ⟨(some 16), none, .act, .bin .shr (.tmp 15) (.const (.int .u64 8))⟩,
     ⟨(some 0), none, .act, .mv (.tmp 16)⟩])
   (.region [
     ⟨(some 17), none, .act, .mv (.tmp 2)⟩,
     ⟨(some 18), none, .act, .bin .add (.tmp 17) (.const (.int .i64 8))⟩,
     ⟨(some 2), none, .act, .mv (.tmp 18)⟩]))
   .skip))
  (.seq (.region [
    ⟨(some 19), none, .act, .mv (.tmp 2)⟩,
    ⟨(some 20), none, .act, .mv (.tmp 0)⟩,
    ⟨(some 21), none, .act, .convInt .u8 (.tmp 20)⟩,
    ⟨(some 22), none, .act, .indexStr (.const (.string ⟨#[0, 1, 2, 2, 3, 3, 3, 3, 4, 4, 4, 4, 4, 4, 4, 4, 5, 5, 5, 5, 5, 5, 5, 5, 5, 5, 5, 5, 5, 5, 5, 5, 6, 6, 6, 6, 6, 6, 6, 6, 6, 6, 6, 6, 6, 6, 6, 6, 6, 6, 6, 6, 6, 6, 6, 6, 6, 6, 6, 6, 6, 6, 6, 6, 7, 7, 7, 7, 7, 7, 7, 7, 7, 7, 7, 7, 7, 7, 7, 7, 7, 7, 7, 7, 7, 7, 7, 7, 7, 7, 7, 7, 7, 7, 7, 7, 7, 7, 7, 7, 7, 7, 7, 7, 7, 7, 7, 7, 7, 7, 7, 7, 7, 7, 7, 7, 7, 7, 7, 7, 7, 7, 7, 7, 7, 7, 7, 7, 8, 8, 8, 8, 8, 8, 8, 8, 8, 8, 8, 8, 8, 8, 8, 8, 8, 8, 8, 8, 8, 8, 8, 8, 8, 8, 8, 8, 8, 8, 8, 8, 8, 8, 8, 8, 8, 8, 8, 8, 8, 8, 8, 8, 8, 8, 8, 8, 8, 8, 8, 8, 8, 8, 8, 8, 8, 8, 8, 8, 8, 8, 8, 8, 8, 8, 8, 8, 8, 8, 8, 8, 8, 8, 8, 8, 8, 8, 8, 8, 8, 8, 8, 8, 8, 8, 8, 8, 8, 8, 8, 8, 8, 8, 8, 8, 8, 8, 8, 8, 8, 8, 8, 8, 8, 8, 8, 8, 8, 8, 8, 8, 8, 8, 8, 8, 8, 8, 8, 8, 8, 8, 8, 8, 8, 8, 8, 8]⟩)) (.tmp 21)⟩,
    ⟨(some 23), none, .act, .convInt .i64 (.tmp 22)⟩,
    ⟨(some 24), none, .act, .bin .add (.tmp 19) (.tmp 23)⟩,
    ⟨(some 2), none, .act, .mv (.tmp 24)⟩])
  .ret)))))
theorem res117 : ∃ c, Try.f117.body = some c ∧ resCode Try.prog 25 c = some r117 := ⟨_, rfl, by kernel_rfl⟩
theorem rr117 : resRes Try.prog Try.f117.results.toList = some [.tmp 2] := by kernel_rfl
theorem len64_spec (n t : Nat) (hn : n < 256) (tb : UInt8) (ht : lenTab[n]? = some tb) (htb : tb.toNat = t) (h : AHeap) : ACalls Try.prog 117 [.v (.int .u64 (n : Int))] h (fun x h' => x = i64 (t : Nat) ∧ h' = h) := by
  obtain ⟨c, hc1, hc2⟩ := res117
  refine ACalls.enter Try.func117 hc1 Try.ntmps117 hc2 (Nat.le_of_ble_eq_true rfl) rfl ?_
  have hw := wrap_u8_small hn
  have htl : tb.toNat < 256 := UInt8.toNat_lt tb
  repeat' (first | refine S.nilK ?_ | (refine S.op rfl ?_; first | refine R.mv rfl ?_ | refine S.addI rfl rfl (by omega) ?_ | refine S.addU rfl rfl ?_ | refine S.addUc rfl (by decide) ?_ | refine S.convIU rfl (by omega) ?_ | refine S.convUI rfl (by omega) ?_ | refine R.convInt rfl ?_ | ((first | refine S.geq rfl rfl ?_ ?_) <;> intro hlt <;> try (exfalso; omega))) | refine S.skip rfl ?_ | refine S.skip0 rfl ?_ | refine S.seq ?_ | refine S.region ?_ | refine S.condT rfl ?_ | refine S.condF rfl ?_ | refine RRun.skip ?_ | refine RRun.block ?_ | refine RRun.inBlock ?_ | refine RRun.exit rfl ?_)
  rw [hw]
  refine S.op rfl (S.indexS (l := lenTab) rfl rfl (by omega) (by simpa using ht) ?_)
  refine S.op rfl (R.convInt rfl ?_)
  rw [htb, wrap_i64 (by omega) (by omega)]
  repeat' (first | refine S.nilK ?_ | (refine S.op rfl ?_; first | refine S.addNN (m := 0) rfl rfl (by omega) ?_ | refine R.mv rfl ?_ | refine S.addI rfl rfl (by omega) ?_ | refine S.addU rfl rfl ?_ | refine S.addUc rfl (by decide) ?_ | refine S.convIU rfl (by omega) ?_ | refine S.convUI rfl (by omega) ?_ | refine R.convInt rfl ?_ | ((first | refine S.geq rfl rfl ?_ ?_) <;> intro hlt <;> try (exfalso; omega))) | refine S.skip rfl ?_ | refine S.skip0 rfl ?_ | refine S.seq ?_ | refine S.region ?_ | refine S.condT rfl ?_ | refine S.condF rfl ?_ | refine RRun.skip ?_ | refine RRun.block ?_ | refine RRun.inBlock ?_ | refine RRun.exit rfl ?_)
  apply S.ret rr117
  case hx => repeat (first | exact ResAt.nil | apply ResAt.tmp rfl | apply ResAt.cellA rfl (by (repeat' (first | assumption | exact AHeap.set_same _ _ _ | refine AHeap.get_fresh ‹_› ?_ | refine AHeap.so ?_ ?_ | exact AHeap.n1 ‹_› | exact AHeap.n2 ‹_› | exact AHeap.ne_of ‹_› ‹_› | exact AHeap.n4 ‹_› ‹_› | exact AHeap.n5 ‹_› | exact AHeap.n6 ‹_› | exact AHeap.n7 ‹_› ‹_› | exact AHeap.n8 ‹_› ‹_›)); first | done | fail) (by rfl) | apply ResAt.cell1 rfl (by (repeat' (first | assumption | exact AHeap.set_same _ _ _ | refine AHeap.get_fresh ‹_› ?_ | refine AHeap.so ?_ ?_ | exact AHeap.n1 ‹_› | exact AHeap.n2 ‹_› | exact AHeap.ne_of ‹_› ‹_› | exact AHeap.n4 ‹_› ‹_› | exact AHeap.n5 ‹_› | exact AHeap.n6 ‹_› | exact AHeap.n7 ‹_› ‹_› | exact AHeap.n8 ‹_› ‹_›)); first | done | fail) (by rfl))
  exact ⟨by rw [Nat.zero_add]; rfl, rfl⟩

/-- math/bits.Len -/
def r104 : RCode :=
  (.seq (.region [
    ⟨(some 2), none, .act, .mv (.const (.int .i64 0))⟩])
  (.seq (.cond (.const (.bool false))
   (.seq (.region [
     ⟨(some 3), none, .act, .mv (.tmp 0)⟩,
     ⟨(some 4), none, .act, .convInt .u32 (.tmp 3)⟩,
     ⟨(some 5), none, .act, .call 116 [(.tmp 4)]⟩,
     ⟨(some 2), none, .act, .mv (.tmp 5)⟩])
   .ret)
   .skip)
  (.seq (.region [
    ⟨(some 6), none, .act, .mv (.tmp 0)⟩,
    ⟨(some 7), none, .act, .call 117 [(.tmp 6)]⟩,
    ⟨(some 2), none, .act, .mv (.tmp 7)⟩])
  .ret)))
theorem res104 : ∃ c, Try.f104.body = some c ∧ resCode Try.prog 8 c = some r104 := ⟨_, rfl, by kernel_rfl⟩
theorem rr104 : resRes Try.prog Try.f104.results.toList = some [.tmp 2] := by kernel_rfl
theorem len_spec (n t : Nat) (hn : n < 256) (tb : UInt8) (ht : lenTab[n]? = some tb) (htb : tb.toNat = t) (h : AHeap) : ACalls Try.prog 104 [.v (.int .u64 (n : Int))] h (fun x h' => x = i64 (t : Nat) ∧ h' = h) := by
  obtain ⟨c, hc1, hc2⟩ := res104
  refine ACalls.enter Try.func104 hc1 Try.ntmps104 hc2 (Nat.le_of_ble_eq_true rfl) rfl ?_
  repeat' (first | refine S.nilK ?_ | (refine S.op rfl ?_; first | refine callS rfl rfl (len64_spec n t hn tb ht htb _) ?_ | refine R.mv rfl ?_ | refine S.convIU rfl (by omega) ?_ | refine S.convUI rfl (by omega) ?_ | refine R.convInt rfl ?_) | refine S.skip rfl ?_ | refine S.skip0 rfl ?_ | refine S.seq ?_ | refine S.region ?_ | refine S.condT rfl ?_ | refine S.condF rfl ?_ | refine RRun.skip ?_ | refine RRun.block ?_ | refine RRun.inBlock ?_ | refine RRun.exit rfl ?_)
  apply S.ret rr104
  case hx => repeat (first | exact ResAt.nil | apply ResAt.tmp rfl | apply ResAt.cellA rfl (by (repeat' (first | assumption | exact AHeap.set_same _ _ _ | refine AHeap.get_fresh ‹_› ?_ | refine AHeap.so ?_ ?_ | exact AHeap.n1 ‹_› | exact AHeap.n2 ‹_› | exact AHeap.ne_of ‹_› ‹_› | exact AHeap.n4 ‹_› ‹_› | exact AHeap.n5 ‹_› | exact AHeap.n6 ‹_› | exact AHeap.n7 ‹_› ‹_› | exact AHeap.n8 ‹_› ‹_›)); first | done | fail) (by rfl) | apply ResAt.cell1 rfl (by (repeat' (first | assumption | exact AHeap.set_same _ _ _ | refine AHeap.get_fresh ‹_› ?_ | refine AHeap.so ?_ ?_ | exact AHeap.n1 ‹_› | exact AHeap.n2 ‹_› | exact AHeap.ne_of ‹_› ‹_› | exact AHeap.n4 ‹_› ‹_› | exact AHeap.n5 ‹_› | exact AHeap.n6 ‹_› | exact AHeap.n7 ‹_› ‹_› | exact AHeap.n8 ‹_› ‹_›)); first | done | fail) (by rfl))
  exact ⟨rfl, rfl⟩

/-- slices.nextPowerOfTwo -/
def r119 : RCode :=
  (.seq (.region [
    ⟨(some 2), none, .act, .mv (.const (.int .u64 0))⟩])
  (.seq (.region [
    ⟨(some 3), none, .act, .mv (.tmp 0)⟩,
    ⟨(some 4), none, .act, .convInt .u64 (.tmp 3)⟩,
    ⟨(some 5), none, .act, .call 104 [(.tmp 4)]⟩,
    ⟨(some 6), none, .act, .bin .shl (.const (.int .u64 1)) (.tmp 5)⟩,
    ⟨(some 2), none, .act, .mv (.tmp 6)⟩])
  .ret))
theorem res119 : ∃ c, Try.f119.body = some c ∧ resCode Try.prog 7 c = some r119 := ⟨_, rfl, by kernel_rfl⟩
theorem rr119 : resRes Try.prog Try.f119.results.toList = some [.tmp 2] := by kernel_rfl
theorem next2_of (n t : Nat) (hn : n < 256) (ht6 : t ≤ 6) (tb : UInt8) (ht : lenTab[n]? = some tb) (htb : tb.toNat = t) (h : AHeap) : ACalls Try.prog 119 [i64 n] h (fun x h' => x = .v (.int .u64 ((2 ^ t : Nat) : Int)) ∧ h' = h) := by
  obtain ⟨c, hc1, hc2⟩ := res119
  refine ACalls.enter Try.func119 hc1 Try.ntmps119 hc2 (Nat.le_of_ble_eq_true rfl) rfl ?_
  repeat' (first | refine S.nilK ?_ | (refine S.op rfl ?_; first | refine S.convU (by omega) rfl ?_ | refine callS rfl rfl (len_spec n t hn tb ht htb _) ?_ | refine R.mv rfl ?_ | refine S.arith rfl rfl rfl ?_ | refine S.convIU rfl (by omega) ?_ | refine S.convUI rfl (by omega) ?_ | refine R.convInt rfl ?_) | refine S.skip rfl ?_ | refine S.skip0 rfl ?_ | refine S.seq ?_ | refine S.region ?_ | refine S.condT rfl ?_ | refine S.condF rfl ?_ | refine RRun.skip ?_ | refine RRun.block ?_ | refine RRun.inBlock ?_ | refine RRun.exit rfl ?_)
  refine S.op rfl (R.shl rfl rfl (by omega) ?_)
  have hm : IntKind.u64.wrap ((1 : Int) * 2 ^ (min ((t : Nat) : Int).toNat IntKind.u64.bits)) = ((2 ^ t : Nat) : Int) := by
    obtain rfl | rfl | rfl | rfl | rfl | rfl | rfl : t = 0 ∨ t = 1 ∨ t = 2 ∨ t = 3 ∨ t = 4 ∨ t = 5 ∨ t = 6 := by omega
    all_goals decide
  rw [hm]
  repeat' (first | refine S.nilK ?_ | (refine S.op rfl ?_; first | refine R.mv rfl ?_ | refine S.arith rfl rfl rfl ?_ | refine S.convIU rfl (by omega) ?_ | refine S.convUI rfl (by omega) ?_ | refine R.convInt rfl ?_) | refine S.skip rfl ?_ | refine S.skip0 rfl ?_ | refine S.seq ?_ | refine S.region ?_ | refine S.condT rfl ?_ | refine S.condF rfl ?_ | refine RRun.skip ?_ | refine RRun.block ?_ | refine RRun.inBlock ?_ | refine RRun.exit rfl ?_)
  apply S.ret rr119
  case hx => repeat (first | exact ResAt.nil | apply ResAt.tmp rfl | apply ResAt.cellA rfl (by (repeat' (first | assumption | exact AHeap.set_same _ _ _ | refine AHeap.get_fresh ‹_› ?_ | refine AHeap.so ?_ ?_ | exact AHeap.n1 ‹_› | exact AHeap.n2 ‹_› | exact AHeap.ne_of ‹_› ‹_› | exact AHeap.n4 ‹_› ‹_› | exact AHeap.n5 ‹_› | exact AHeap.n6 ‹_› | exact AHeap.n7 ‹_› ‹_› | exact AHeap.n8 ‹_› ‹_›)); first | done | fail) (by rfl) | apply ResAt.cell1 rfl (by (repeat' (first | assumption | exact AHeap.set_same _ _ _ | refine AHeap.get_fresh ‹_› ?_ | refine AHeap.so ?_ ?_ | exact AHeap.n1 ‹_› | exact AHeap.n2 ‹_› | exact AHeap.ne_of ‹_› ‹_› | exact AHeap.n4 ‹_› ‹_› | exact AHeap.n5 ‹_› | exact AHeap.n6 ‹_› | exact AHeap.n7 ‹_› ‹_› | exact AHeap.n8 ‹_› ‹_›)); first | done | fail) (by rfl))
  exact ⟨rfl, rfl⟩

theorem next2_spec (n : Nat) (h8 : 8 ≤ n) (hn : n < 50) (h : AHeap) : ACalls Try.prog 119 [i64 n] h (fun x h' => (∃ m : Nat, x = .v (.int .u64 (m : Int)) ∧ 1 ≤ m ∧ m ≤ 2 * n) ∧ h' = h) := by
  rcases lenTab_get n hn h8 with ⟨ht, hb⟩ | ⟨ht, hb, _⟩ | ⟨ht, hb⟩
  · exact (next2_of n 4 (by omega) (by omega) 4 ht rfl h).mono fun x h' ⟨e1, e2⟩ => ⟨⟨16, e1, by omega, by omega⟩, e2⟩
  · exact (next2_of n 5 (by omega) (by omega) 5 ht rfl h).mono fun x h' ⟨e1, e2⟩ => ⟨⟨32, e1, by omega, by omega⟩, e2⟩
  · exact (next2_of n 6 (by omega) (by omega) 6 ht rfl h).mono fun x h' ⟨e1, e2⟩ => ⟨⟨64, e1, by omega, by omega⟩, e2⟩

/-! ### xorshift.Next -/
theorem wrap_u64_is (n : Int) : ∃ x : UInt64, IntKind.u64.wrap n = (x.toNat : Int) := by
  have h : ∃ m : Nat, IntKind.u64.wrap n = (m : Int) ∧ m < 18446744073709551616 := by
    simp only [IntKind.wrap, IntKind.bits, IntKind.signed]
    simp
    exact ⟨(n % 18446744073709551616).toNat, by omega, by omega⟩
  obtain ⟨m, h1, h2⟩ := h
  exact ⟨UInt64.ofNat m, by rw [h1]; simp; omega⟩

section
variable {P : Program} {c : Cls} {E : AEnv} {h : AHeap} {K : AV → AHeap → Prop}
theorem S.shlAny {x y : Operand} {a : UInt64} {j : IntKind} {s : Int} (hx : aev E x = some (Go.Av.u64 a)) (hy : aev E y = some (.v (.int j s))) (h0 : 0 ≤ s) (hk : ∀ z : UInt64, K (Go.Av.u64 z) h) : ROpS P c (.bin .shl x y) E h K := by
  refine R.shl hx hy h0 ?_
  obtain ⟨z, hz⟩ := wrap_u64_is ((a.toNat : Int) * 2 ^ (min s.toNat IntKind.u64.bits))
  rw [hz]; exact hk z
theorem S.xorAny {x y : Operand} {a b : UInt64} (hx : aev E x = some (Go.Av.u64 a)) (hy : aev E y = some (Go.Av.u64 b)) (hk : ∀ z : UInt64, K (Go.Av.u64 z) h) : ROpS P c (.bin .xor x y) E h K := by
  obtain ⟨z, hz⟩ := wrap_u64_is ((BitVec.ofInt IntKind.u64.bits (a.toNat : Int) ^^^ BitVec.ofInt IntKind.u64.bits (b.toNat : Int)).toNat : Int)
  refine S.arith hx hy rfl ?_
  have := hk z
  simp only [Go.Av.u64] at this
  rw [← hz] at this
  exact this
theorem S.shrAny {x y : Operand} {a : UInt64} {j : IntKind} {s : Nat} (hx : aev E x = some (Go.Av.u64 a)) (hy : aev E y = some (.v (.int j ((s : Nat) : Int)))) (hk : ∀ z : UInt64, K (Go.Av.u64 z) h) : ROpS P c (.bin .shr x y) E h K := by
  refine R.shr hx hy (by omega) ?_
  obtain ⟨m, hm, hm2⟩ : ∃ m : Nat, ((a.toNat : Int).fdiv (2 ^ (min ((s : Nat) : Int).toNat IntKind.u64.bits))) = (m : Int) ∧ m < 18446744073709551616 := by
    refine ⟨a.toNat / 2 ^ (min ((s : Nat) : Int).toNat IntKind.u64.bits), ?_, ?_⟩
    · rw [Int.fdiv_eq_ediv_of_nonneg _ (by exact_mod_cast Nat.zero_le _)]
      push_cast
      rfl
    · exact Nat.lt_of_le_of_lt (Nat.div_le_self _ _) (UInt64.toNat_lt a)
  rw [hm]
  have e : (m : Int) = ((UInt64.ofNat m).toNat : Int) := by simp; omega
  rw [e]; exact hk _
end

/-- (*slices.xorshift).Next -/
def r120 : RCode :=
  (.seq (.region [
    ⟨(some 2), none, .act, .mv (.const (.int .u64 0))⟩])
  (.seq (.region [
    ⟨(some 3), none, .pure, .mv (.tmp 0)⟩,
    ⟨(some 4), none, .pure, .nilCheck (.tmp 3)⟩,
    ⟨(some 5), none, .read, .load false 1 (.tmp 4)⟩,
    ⟨(some 6), none, .pure, .mv (.tmp 0)⟩,
    ⟨(some 7), none, .pure, .nilCheck (.tmp 6)⟩,
    ⟨(some 8), none, .read, .load false 1 (.tmp 7)⟩,
    ⟨(some 9), none, .pure, .bin .shl (.tmp 8) (.const (.int .u64 13))⟩,
    ⟨(some 10), none, .pure, .bin .xor (.tmp 5) (.tmp 9)⟩,
    ⟨(some 11), none, .pure, .nilCheck (.tmp 3)⟩,
    ⟨none, none, .act, .store 1 (.tmp 11) (.tmp 10)⟩])
  (.seq (.region [
    ⟨(some 12), none, .pure, .mv (.tmp 0)⟩,
    ⟨(some 13), none, .pure, .nilCheck (.tmp 12)⟩,
    ⟨(some 14), none, .read, .load false 1 (.tmp 13)⟩,
    ⟨(some 15), none, .pure, .mv (.tmp 0)⟩,
    ⟨(some 16), none, .pure, .nilCheck (.tmp 15)⟩,
    ⟨(some 17), none, .read, .load false 1 (.tmp 16)⟩,
    ⟨(some 18), none, .pure, .bin .shr (.tmp 17) (.const (.int .u64 7))⟩,
    ⟨(some 19), none, .pure, .bin .xor (.tmp 14) (.tmp 18)⟩,
    ⟨(some 20), none, .pure, .nilCheck (.tmp 12)⟩,
    ⟨none, none, .act, .store 1 (.tmp 20) (.tmp 19)⟩])
  (.seq (.region [
    ⟨(some 21), none, .pure, .mv (.tmp 0)⟩,
    ⟨(some 22), none, .pure, .nilCheck (.tmp 21)⟩,
    ⟨(some 23), none, .read, .load false 1 (.tmp 22)⟩,
    ⟨(some 24), none, .pure, .mv (.tmp 0)⟩,
    ⟨(some 25), none, .pure, .nilCheck (.tmp 24)⟩,
    ⟨(some 26), none, .read, .load false 1 (.tmp 25)⟩,
    ⟨(some 27), none, .pure, .bin .shl (.tmp 26) (.const (.int .u64 17))⟩,
    ⟨(some 28), none, .pure, .bin .xor (.tmp 23) (.tmp 27)⟩,
    ⟨(some 29), none, .pure, .nilCheck (.tmp 21)⟩,
    ⟨none, none, .act, .store 1 (.tmp 29) (.tmp 28)⟩])
  (.seq (.region [
    ⟨(some 30), none, .act, .mv (.tmp 0)⟩,
    ⟨(some 31), none, .act, .nilCheck (.tmp 30)⟩,
    ⟨(some 32), none, .act, .load false 1 (.tmp 31)⟩,
    ⟨(some 2), none, .act, .mv (.tmp 32)⟩])
  .ret)))))
theorem res120 : ∃ c, Try.f120.body = some c ∧ resCode Try.prog 33 c = some r120 := ⟨_, rfl, by kernel_rfl⟩
theorem rr120 : resRes Try.prog Try.f120.results.toList = some [.tmp 2] := by kernel_rfl
theorem xorNext_spec (p : Nat) (x : UInt64) (H : AHeap) (hp : H p = some (.box [Go.Av.u64 x])) : ACalls Try.prog 120 [ptr p] H (fun y h' => ∃ z : UInt64, y = Go.Av.u64 z ∧ h' = H.set p (.box [Go.Av.u64 z])) := by
  obtain ⟨c, hc1, hc2⟩ := res120
  refine ACalls.enter Try.func120 hc1 Try.ntmps120 hc2 (Nat.le_of_ble_eq_true rfl) rfl ?_
  repeat' (first | refine S.nilK ?_ | (refine S.op rfl ?_; first | refine S.shlAny rfl rfl (by decide) (fun z => ?_) | refine S.shrAny (s := 7) rfl rfl (fun z => ?_) | refine S.xorAny rfl rfl (fun z => ?_) | refine R.mv rfl ?_ | refine R.nilCheck rfl ?_ | refine R.nilCheckR rfl ?_ | refine R.loadR rfl rfl ?_ | refine R.load (by decide) rfl (by (repeat' (first | assumption | exact AHeap.set_same _ _ _ | refine AHeap.get_fresh ‹_› ?_ | refine AHeap.so ?_ ?_ | exact AHeap.n1 ‹_› | exact AHeap.n2 ‹_› | exact AHeap.ne_of ‹_› ‹_› | exact AHeap.n4 ‹_› ‹_› | exact AHeap.n5 ‹_› | exact AHeap.n6 ‹_› | exact AHeap.n7 ‹_› ‹_› | exact AHeap.n8 ‹_› ‹_›)); first | done | fail) rfl ?_ | refine S.arith rfl rfl rfl ?_) | (refine S.op0 rfl ?_; first | refine S.storeS rfl rfl rfl (by rfl) rfl (by first | decide | exact Nat.le_refl _ | exact Nat.le_of_ble_eq_true rfl) ?_ | refine S.store rfl rfl (by (repeat' (first | assumption | exact AHeap.set_same _ _ _ | refine AHeap.get_fresh ‹_› ?_ | refine AHeap.so ?_ ?_ | exact AHeap.n1 ‹_› | exact AHeap.n2 ‹_› | exact AHeap.ne_of ‹_› ‹_› | exact AHeap.n4 ‹_› ‹_› | exact AHeap.n5 ‹_› | exact AHeap.n6 ‹_› | exact AHeap.n7 ‹_› ‹_› | exact AHeap.n8 ‹_› ‹_›)); first | done | fail) rfl rfl rfl (by rfl) rfl ?_) | refine S.skip rfl ?_ | refine S.skip0 rfl ?_ | refine S.seq ?_ | refine S.region ?_ | refine S.condT rfl ?_ | refine S.condF rfl ?_ | refine RRun.skip ?_ | refine RRun.block ?_ | refine RRun.inBlock ?_ | refine RRun.exit rfl ?_)
  apply S.ret rr120
  case hx => repeat (first | exact ResAt.nil | apply ResAt.tmp rfl | apply ResAt.cellA rfl (by (repeat' (first | assumption | exact AHeap.set_same _ _ _ | refine AHeap.get_fresh ‹_› ?_ | refine AHeap.so ?_ ?_ | exact AHeap.n1 ‹_› | exact AHeap.n2 ‹_› | exact AHeap.ne_of ‹_› ‹_› | exact AHeap.n4 ‹_› ‹_› | exact AHeap.n5 ‹_› | exact AHeap.n6 ‹_› | exact AHeap.n7 ‹_› ‹_› | exact AHeap.n8 ‹_› ‹_›)); first | done | fail) (by rfl) | apply ResAt.cell1 rfl (by (repeat' (first | assumption | exact AHeap.set_same _ _ _ | refine AHeap.get_fresh ‹_› ?_ | refine AHeap.so ?_ ?_ | exact AHeap.n1 ‹_› | exact AHeap.n2 ‹_› | exact AHeap.ne_of ‹_› ‹_› | exact AHeap.n4 ‹_› ‹_› | exact AHeap.n5 ‹_› | exact AHeap.n6 ‹_› | exact AHeap.n7 ‹_› ‹_› | exact AHeap.n8 ‹_› ‹_›)); first | done | fail) (by rfl))
  exact ⟨_, rfl, rfl⟩

/-! ### breakPatterns -/

theorem and_le (a b : Nat) : ∃ m : Nat, m ≤ b ∧ IntKind.u64.wrap ((BitVec.ofInt IntKind.u64.bits ((a : Nat) : Int) &&& BitVec.ofInt IntKind.u64.bits ((b : Nat) : Int)).toNat : Int) = (m : Int) := by
  have hle : (BitVec.ofInt IntKind.u64.bits ((a : Nat) : Int) &&& BitVec.ofInt IntKind.u64.bits ((b : Nat) : Int)).toNat ≤ b := by
    rw [BitVec.toNat_and]
    refine Nat.le_trans Nat.and_le_right ?_
    rw [BitVec.ofInt_natCast, BitVec.toNat_ofNat]
    exact Nat.mod_le _ _
  have hlt := (BitVec.ofInt IntKind.u64.bits ((a : Nat) : Int) &&& BitVec.ofInt IntKind.u64.bits ((b : Nat) : Int)).isLt
  exact ⟨_, hle, wrap_u64N hlt⟩

def r109l0 : RCode :=
  (.seq (.seq (.region [
    ⟨(some 26), none, .act, .mv (.tmp 9)⟩,
    ⟨(some 27), none, .act, .mv (.tmp 1)⟩,
    ⟨(some 28), none, .act, .mv (.tmp 6)⟩,
    ⟨(some 29), none, .act, .bin .quo (.tmp 28) (.const (.int .i64 4))⟩,
    ⟨(some 30), none, .act, .bin .mul (.tmp 29) (.const (.int .i64 2))⟩,
    ⟨(some 31), none, .act, .bin .add (.tmp 27) (.tmp 30)⟩,
    ⟨(some 32), none, .act, .bin .add (.tmp 31) (.const (.int .i64 1))⟩,
    ⟨(some 33), none, .act, .bin .leq (.tmp 26) (.tmp 32)⟩])
  (.cond (.tmp 33)
   .skip
   (.exit 0)))
  (.seq (.block 1
   (.seq (.region [
     ⟨(some 36), none, .act, .call 120 [(.tmp 7)]⟩,
     ⟨(some 37), none, .act, .mv (.tmp 8)⟩,
     ⟨(some 38), none, .act, .bin .sub (.tmp 37) (.const (.int .u64 1))⟩,
     ⟨(some 39), none, .act, .bin .and (.tmp 36) (.tmp 38)⟩,
     ⟨(some 40), none, .act, .convInt .i64 (.tmp 39)⟩,
     ⟨(some 10), none, .act, .mv (.tmp 40)⟩])
   (.seq (.seq (.region [
     ⟨(some 41), none, .act, .mv (.tmp 10)⟩,
     ⟨(some 42), none, .act, .mv (.tmp 6)⟩,
     ⟨(some 43), none, .act, .bin .geq (.tmp 41) (.tmp 42)⟩])
   (.cond (.tmp 43)
    (.region [
      ⟨(some 44), none, .act, .mv (.tmp 10)⟩,
      ⟨(some 45), none, .act, .mv (.tmp 6)⟩,
      ⟨(some 46), none, .act, .bin .sub (.tmp 44) (.tmp 45)⟩,
      ⟨(some 10), none, .act, .mv (.tmp 46)⟩])
    .skip))
   (.region [
     ⟨(some 47), none, .pure, .mv (.tmp 0)⟩,
     ⟨(some 48), none, .pure, .mv (.tmp 9)⟩,
     ⟨(some 49), none, .pure, .mv (.tmp 0)⟩,
     ⟨(some 50), none, .pure, .mv (.tmp 1)⟩,
     ⟨(some 51), none, .pure, .mv (.tmp 10)⟩,
     ⟨(some 52), none, .pure, .bin .add (.tmp 50) (.tmp 51)⟩,
     ⟨(some 53), none, .pure, .mv (.tmp 0)⟩,
     ⟨(some 54), none, .pure, .mv (.tmp 1)⟩,
     ⟨(some 55), none, .pure, .mv (.tmp 10)⟩,
     ⟨(some 56), none, .pure, .bin .add (.tmp 54) (.tmp 55)⟩,
     ⟨(some 57), none, .pure, .indexAddr 1 (.tmp 53) (.tmp 56)⟩,
     ⟨(some 58), none, .read, .load false 1 (.tmp 57)⟩,
     ⟨(some 59), none, .pure, .mv (.tmp 0)⟩,
     ⟨(some 60), none, .pure, .mv (.tmp 9)⟩,
     ⟨(some 61), none, .pure, .indexAddr 1 (.tmp 59) (.tmp 60)⟩,
     ⟨(some 62), none, .read, .load false 1 (.tmp 61)⟩,
     ⟨(some 63), none, .pure, .indexAddr 1 (.tmp 47) (.tmp 48)⟩,
     ⟨none, none, .act, .store 1 (.tmp 63) (.tmp 58)⟩,
     ⟨(some 64), none, .pure, .indexAddr 1 (.tmp 49) (.tmp 52)⟩,
     ⟨none, none, .act, .store 1 (.tmp 64) (.tmp 62)⟩]))))
  (.region [
    ⟨(some 34), none, .act, .mv (.tmp 9)⟩,
    ⟨(some 35), none, .act, .bin .add (.tmp 34) (.const (.int .i64 1))⟩,
    ⟨(some 9), none, .act, .mv (.tmp 35)⟩])))
/-- slices.breakPatternsOrdered[uint64] -/
def r109 : RCode :=
  (.seq (.region [
    ⟨(some 11), none, .act, .mv (.tmp 2)⟩,
    ⟨(some 12), none, .act, .mv (.tmp 1)⟩,
    ⟨(some 13), none, .act, .bin .sub (.tmp 11) (.tmp 12)⟩,
    ⟨(some 6), none, .act, .mv (.tmp 13)⟩])
  (.seq (.region [
    ⟨(some 14), none, .act, .mv (.tmp 6)⟩,
    ⟨(some 15), none, .act, .bin .geq (.tmp 14) (.const (.int .i64 8))⟩])
  (.cond (.tmp 15)
   (.seq (.region [
     ⟨(some 16), none, .act, .mv (.tmp 6)⟩,
     ⟨(some 17), none, .act, .convInt .u64 (.tmp 16)⟩,
     ⟨(some 7), none, .act, .alloc [(.int .u64 0)]⟩,
     ⟨none, none, .act, .store 1 (.tmp 7) (.tmp 17)⟩])
   (.seq (.region [
     ⟨(some 18), none, .act, .mv (.tmp 6)⟩,
     ⟨(some 19), none, .act, .call 119 [(.tmp 18)]⟩,
     ⟨(some 8), none, .act, .mv (.tmp 19)⟩])
   (.seq (.region [
     ⟨(some 20), none, .act, .mv (.tmp 1)⟩,
     ⟨(some 21), none, .act, .mv (.tmp 6)⟩,
     ⟨(some 22), none, .act, .bin .quo (.tmp 21) (.const (.int .i64 4))⟩,
     ⟨(some 23), none, .act, .bin .mul (.tmp 22) (.const (.int .i64 2))⟩,
     ⟨(some 24), none, .act, .bin .add (.tmp 20) (.tmp 23)⟩,
     ⟨(some 25), none, .act, .bin .sub (.tmp 24) (.const (.int .i64 1))⟩,
     ⟨(some 9), none, .act, .mv (.tmp 25)⟩])
   (.block 0
    (.loop r109l0)))))
   .skip)))
theorem res109 : ∃ c, Try.f109.body = some c ∧ resCode Try.prog 65 c = some r109 := ⟨_, rfl, by kernel_rfl⟩
theorem rr109 : resRes Try.prog Try.f109.results.toList = some [] := by kernel_rfl

theorem HL_comm (h : AHeap) (p q : Nat) (o o' : ABlk) (l : List SE) (sp : List AV) (hpq : p ≠ q) : (HL (h.set p o) q l sp).set p o' = HL (h.set p o') q l sp := by
  funext x
  simp only [HL, AHeap.set]
  by_cases h1 : x = p
  · subst h1; simp [hpq]
  · by_cases h2 : x = q
    · subst h2; simp [h1]
    · simp [h1, h2]
theorem HL_off (h : AHeap) (p q : Nat) (o : ABlk) (l : List SE) (sp : List AV) (hpq : p ≠ q) : (HL (h.set p o) q l sp) p = some o := by
  simp [HL, AHeap.set, hpq]


/-- A round: two places are swapped. -/
theorem break_round (q cap n a len modu idx p : Nat) (sp : List AV) (h : AHeap) (hn : n ≤ 1000000) (hal : a + len ≤ n) (h8 : 8 ≤ len) (hm1 : 1 ≤ modu) (hm2 : modu ≤ 2 * len) (hi1 : a ≤ idx) (hi2 : idx < a + len) (hi3 : idx ≤ a + len / 4 * 2 + 1) (hpq : p ≠ q) (d : Array SE) (hd : d.size = n) (x : UInt64) (k : List RT) (Q : AV → AHeap → Prop)
    (hk : ∀ (z : UInt64) (d' : Array SE), d'.size = n → PermIn a (a + len) d d' → RRun Try.prog Try.f109 65 (.inLoop r109l0 :: .inBlock 0 :: k) (Env.get [(0, slAt q 0 n cap), (1, i64 a), (6, i64 len), (7, ptr p), (8, .v (.int .u64 (modu : Int))), (9, i64 (idx + 1 : Nat))]) (HL (h.set p (.box [Go.Av.u64 z])) q d'.toList sp) Q) :
    RRun Try.prog Try.f109 65 (.inLoop r109l0 :: .inBlock 0 :: k) (Env.get [(0, slAt q 0 n cap), (1, i64 a), (6, i64 len), (7, ptr p), (8, .v (.int .u64 (modu : Int))), (9, i64 idx)]) (HL (h.set p (.box [Go.Av.u64 x])) q d.toList sp) Q := by
  have q2 : len / 4 * 2 < len := by omega
  refine RRun.inLoop ?_
  repeat' (first | (refine S.op0 rfl (S.stE rfl rfl rfl (by simp only [List.length_set, Array.length_toList]; omega) ?_)) | refine S.nilK ?_ | (refine S.op rfl ?_; first | refine S.addNN (n := 1) rfl rfl (by omega) ?_ | refine S.addNN rfl rfl (by omega) ?_ | refine S.subNN (n := 1) rfl rfl (by omega) (by omega) ?_ | refine S.subNN rfl rfl (by omega) (by omega) ?_ | refine S.ix rfl rfl (by omega) ?_ | refine S.ldE (by decide) rfl (by omega) ?_ | refine S.quoNN (n := 4) rfl rfl (by decide) (by omega) ?_ | refine S.mulNN (n := 2) rfl rfl (by omega) ?_ | refine R.mv rfl ?_ | refine R.loadR rfl rfl ?_ | refine R.load (by decide) rfl (by (repeat' (first | assumption | exact AHeap.set_same _ _ _ | refine AHeap.get_fresh ‹_› ?_ | refine AHeap.so ?_ ?_ | exact AHeap.n1 ‹_› | exact AHeap.n2 ‹_› | exact AHeap.ne_of ‹_› ‹_› | exact AHeap.n4 ‹_› ‹_› | exact AHeap.n5 ‹_› | exact AHeap.n6 ‹_› | exact AHeap.n7 ‹_› ‹_› | exact AHeap.n8 ‹_› ‹_›)); first | done | fail) rfl ?_ | refine S.addI rfl rfl (by omega) ?_ | refine S.subI rfl rfl (by omega) ?_ | refine S.addU rfl rfl ?_ | refine S.subU rfl rfl ?_ | refine S.addUc rfl (by decide) ?_ | refine S.subUc rfl (by decide) ?_ | refine S.arith rfl rfl rfl ?_ | refine S.convIU rfl (by omega) ?_ | refine S.convUI rfl (by omega) ?_ | refine R.convInt rfl ?_ | refine R.alloc rfl (fun b hb => ?_) | ((first | refine S.leq rfl rfl ?_ ?_ | refine S.geq rfl rfl ?_ ?_) <;> intro hlt <;> try (exfalso; omega))) | (refine S.op0 rfl ?_; first | refine S.storeS rfl rfl rfl (by rfl) rfl (by first | decide | exact Nat.le_refl _ | exact Nat.le_of_ble_eq_true rfl) ?_ | refine S.store rfl rfl (by (repeat' (first | assumption | exact AHeap.set_same _ _ _ | refine AHeap.get_fresh ‹_› ?_ | refine AHeap.so ?_ ?_ | exact AHeap.n1 ‹_› | exact AHeap.n2 ‹_› | exact AHeap.ne_of ‹_› ‹_› | exact AHeap.n4 ‹_› ‹_› | exact AHeap.n5 ‹_› | exact AHeap.n6 ‹_› | exact AHeap.n7 ‹_› ‹_› | exact AHeap.n8 ‹_› ‹_›)); first | done | fail) rfl rfl rfl (by rfl) rfl ?_) | refine S.skip rfl ?_ | refine S.skip0 rfl ?_ | refine S.seq ?_ | refine S.region ?_ | refine S.condT rfl ?_ | refine S.condF rfl ?_ | refine RRun.skip ?_ | refine RRun.block ?_ | refine RRun.inBlock ?_ | refine RRun.exit rfl ?_)
  refine S.op rfl (R.call rfl rfl ((xorNext_spec p x _ (HL_off _ _ _ _ _ _ hpq)).mono ?_))
  rintro y h' ⟨z, rfl, rfl⟩
  rw [HL_comm _ _ _ _ _ _ _ hpq]
  obtain ⟨m, hml, hmw⟩ := and_le z.toNat (modu - 1)
  have hsub : IntKind.u64.wrap ((modu : Int) - 1) = ((modu - 1 : Nat) : Int) := by
    rw [show ((modu : Int) - 1) = ((modu - 1 : Nat) : Int) by omega, wrap_u64N (by omega)]
  refine S.op rfl (R.mv rfl ?_)
  refine S.op rfl (S.arith rfl rfl rfl ?_)
  rw [hsub]
  refine S.op rfl (S.arith rfl rfl rfl ?_)
  rw [hmw]
  refine S.op rfl (R.convInt rfl ?_)
  rw [wrap_i64 (by omega) (by omega)]
  have hsw : ∀ j, a ≤ j → j < a + len → PermIn a (a + len) d (swp d idx j) := fun j h1 h2 => Go.Sort.swp_permIn d a (a + len) idx j hi1 hi2 h1 h2 (by omega)
  repeat' (first | (refine S.op0 rfl (S.stE rfl rfl rfl (by simp only [List.length_set, Array.length_toList]; omega) ?_)) | refine S.nilK ?_ | (refine S.op rfl ?_; first | refine S.addNN (n := 1) rfl rfl (by omega) ?_ | refine S.addNN rfl rfl (by omega) ?_ | refine S.subNN (n := 1) rfl rfl (by omega) (by omega) ?_ | refine S.subNN rfl rfl (by omega) (by omega) ?_ | refine S.ix rfl rfl (by omega) ?_ | refine S.ldE (by decide) rfl (by omega) ?_ | refine R.mv rfl ?_ | refine R.loadR rfl rfl ?_ | refine R.load (by decide) rfl (by (repeat' (first | assumption | exact AHeap.set_same _ _ _ | refine AHeap.get_fresh ‹_› ?_ | refine AHeap.so ?_ ?_ | exact AHeap.n1 ‹_› | exact AHeap.n2 ‹_› | exact AHeap.ne_of ‹_› ‹_› | exact AHeap.n4 ‹_› ‹_› | exact AHeap.n5 ‹_› | exact AHeap.n6 ‹_› | exact AHeap.n7 ‹_› ‹_› | exact AHeap.n8 ‹_› ‹_›)); first | done | fail) rfl ?_ | refine S.addI rfl rfl (by omega) ?_ | refine S.subI rfl rfl (by omega) ?_ | refine S.addU rfl rfl ?_ | refine S.subU rfl rfl ?_ | refine S.addUc rfl (by decide) ?_ | refine S.subUc rfl (by decide) ?_ | refine S.arith rfl rfl rfl ?_ | refine S.convIU rfl (by omega) ?_ | refine S.convUI rfl (by omega) ?_ | refine R.convInt rfl ?_ | refine R.alloc rfl (fun b hb => ?_) | ((first | refine S.leq rfl rfl ?_ ?_ | refine S.geq rfl rfl ?_ ?_) <;> intro hlt <;> try (exfalso; omega))) | (refine S.op0 rfl ?_; first | refine S.storeS rfl rfl rfl (by rfl) rfl (by first | decide | exact Nat.le_refl _ | exact Nat.le_of_ble_eq_true rfl) ?_ | refine S.store rfl rfl (by (repeat' (first | assumption | exact AHeap.set_same _ _ _ | refine AHeap.get_fresh ‹_› ?_ | refine AHeap.so ?_ ?_ | exact AHeap.n1 ‹_› | exact AHeap.n2 ‹_› | exact AHeap.ne_of ‹_› ‹_› | exact AHeap.n4 ‹_› ‹_› | exact AHeap.n5 ‹_› | exact AHeap.n6 ‹_› | exact AHeap.n7 ‹_› ‹_› | exact AHeap.n8 ‹_› ‹_›)); first | done | fail) rfl rfl rfl (by rfl) rfl ?_) | refine S.skip rfl ?_ | refine S.skip0 rfl ?_ | refine S.seq ?_ | refine S.region ?_ | refine S.condT rfl ?_ | refine S.condF rfl ?_ | refine RRun.skip ?_ | refine RRun.block ?_ | refine RRun.inBlock ?_ | refine RRun.exit rfl ?_)
  · rw [swp_list]
    exact S.keep [0, 1, 6, 7, 8, 9] rfl (hk z _ (by rw [swp_size]; exact hd) (hsw _ (by omega) (by omega)))
  · rw [swp_list]
    exact S.keep [0, 1, 6, 7, 8, 9] rfl (hk z _ (by rw [swp_size]; exact hd) (hsw _ (by omega) (by omega)))

theorem HL_out (h : AHeap) (p q : Nat) (o : ABlk) (l : List SE) (sp : List AV) (hpq : p ≠ q) (hp : h p = none) : (HL h q l sp).set p o = HL (h.set p o) q l sp ∧ (HL h q l sp).le (HL (h.set p o) q l sp) := by
  have e : (HL h q l sp).set p o = HL (h.set p o) q l sp := by
    funext x
    simp only [HL, AHeap.set]
    by_cases h1 : x = p
    · subst h1; simp [hpq]
    · by_cases h2 : x = q
      · subst h2; simp [h1]
      · simp [h1, h2]
  refine ⟨e, ?_⟩
  rw [← e]
  exact (AHeap.le.refl _).set _ (by simp [HL, AHeap.set, hpq, hp])

theorem breakPatterns_spec (q cap n a e : Nat) (sp : List AV) (h : AHeap) (hn : n ≤ 1000000) (he : e ≤ n) (ha : a ≤ e) (h50 : e - a < 50) (d : Array SE) (hd : d.size = n) :
    ACalls Try.prog 109 [slAt q 0 n cap, i64 a, i64 e] (HL h q d.toList sp) (fun _ h' => ∃ d' : Array SE, d'.size = n ∧ PermIn a e d d' ∧ h' = HL h q d'.toList sp) := by
  obtain ⟨c, hc1, hc2⟩ := res109
  refine ACalls.weak (ACalls.enter Try.func109 hc1 Try.ntmps109 hc2 (Nat.le_of_ble_eq_true rfl) rfl ?_)
  by_cases h8 : 8 ≤ e - a
  · have q2 : (e - a) / 4 * 2 < e - a := by omega
    have q4 : 4 ≤ (e - a) / 4 * 2 := by omega
    have q5 : (e - a) / 4 * 2 + 1 < e - a := by omega
    repeat' (first | (refine S.op0 rfl (S.stE rfl rfl rfl (by simp only [List.length_set, Array.length_toList]; omega) ?_)) | refine S.nilK ?_ | (refine S.op rfl ?_; first | refine S.addNN (n := 1) rfl rfl (by omega) ?_ | refine S.addNN rfl rfl (by omega) ?_ | refine S.subNN (n := 1) rfl rfl (by omega) (by omega) ?_ | refine S.subNN rfl rfl (by omega) (by omega) ?_ | refine S.ix rfl rfl (by omega) ?_ | refine S.ldE (by decide) rfl (by omega) ?_ | refine S.convU (by omega) rfl ?_ | refine R.mv rfl ?_ | refine R.loadR rfl rfl ?_ | refine R.load (by decide) rfl (by (repeat' (first | assumption | exact AHeap.set_same _ _ _ | refine AHeap.get_fresh ‹_› ?_ | refine AHeap.so ?_ ?_ | exact AHeap.n1 ‹_› | exact AHeap.n2 ‹_› | exact AHeap.ne_of ‹_› ‹_› | exact AHeap.n4 ‹_› ‹_› | exact AHeap.n5 ‹_› | exact AHeap.n6 ‹_› | exact AHeap.n7 ‹_› ‹_› | exact AHeap.n8 ‹_› ‹_›)); first | done | fail) rfl ?_ | refine S.addI rfl rfl (by omega) ?_ | refine S.subI rfl rfl (by omega) ?_ | refine S.addU rfl rfl ?_ | refine S.subU rfl rfl ?_ | refine S.addUc rfl (by decide) ?_ | refine S.subUc rfl (by decide) ?_ | refine S.arith rfl rfl rfl ?_ | refine S.convIU rfl (by omega) ?_ | refine S.convUI rfl (by omega) ?_ | refine R.convInt rfl ?_ | refine R.alloc rfl (fun b hb => ?_) | ((first | refine S.leq rfl rfl ?_ ?_ | refine S.geq rfl rfl ?_ ?_) <;> intro hlt <;> try (exfalso; omega))) | (refine S.op0 rfl ?_; first | refine S.storeS rfl rfl rfl (by rfl) rfl (by first | decide | exact Nat.le_refl _ | exact Nat.le_of_ble_eq_true rfl) ?_ | refine S.store rfl rfl (by (repeat' (first | assumption | exact AHeap.set_same _ _ _ | refine AHeap.get_fresh ‹_› ?_ | refine AHeap.so ?_ ?_ | exact AHeap.n1 ‹_› | exact AHeap.n2 ‹_› | exact AHeap.ne_of ‹_› ‹_› | exact AHeap.n4 ‹_› ‹_› | exact AHeap.n5 ‹_› | exact AHeap.n6 ‹_› | exact AHeap.n7 ‹_› ‹_› | exact AHeap.n8 ‹_› ‹_›)); first | done | fail) rfl rfl rfl (by rfl) rfl ?_) | refine S.skip rfl ?_ | refine S.skip0 rfl ?_ | refine S.seq ?_ | refine S.region ?_ | refine S.condT rfl ?_ | refine S.condF rfl ?_ | refine RRun.skip ?_ | refine RRun.block ?_ | refine RRun.inBlock ?_ | refine RRun.exit rfl ?_)
    have hpq : b ≠ q := Ne.symm (AHeap.ne_of hb (HL_at h q d.toList sp))
    have hp0 : h b = none := by
      have := hb
      simp only [HL, AHeap.set, hpq, if_false] at this
      exact this
    have hu : AV.v (.int .u64 ((e - a : Nat) : Int)) = Go.Av.u64 (UInt64.ofNat (e - a)) := by
      simp only [Go.Av.u64]
      have : (UInt64.ofNat (e - a)).toNat = e - a := by simp; omega
      rw [this]
    have hov : over [AV.v (.int .u64 0)] 0 [AV.v (.int .u64 ((e - a : Nat) : Int))] = [Go.Av.u64 (UInt64.ofNat (e - a))] := by rw [← hu]; rfl
    refine S.op rfl (R.call rfl rfl ((next2_spec (e - a) h8 h50 _).mono ?_))
    rintro y h' ⟨⟨modu, rfl, hm1, hm2⟩, rfl⟩
    repeat' (first | (refine S.op0 rfl (S.stE rfl rfl rfl (by simp only [List.length_set, Array.length_toList]; omega) ?_)) | refine S.nilK ?_ | (refine S.op rfl ?_; first | refine S.addNN (n := 1) rfl rfl (by omega) ?_ | refine S.addNN rfl rfl (by omega) ?_ | refine S.subNN (n := 1) rfl rfl (by omega) (by omega) ?_ | refine S.subNN rfl rfl (by omega) (by omega) ?_ | refine S.ix rfl rfl (by omega) ?_ | refine S.ldE (by decide) rfl (by omega) ?_ | refine S.quoNN (n := 4) rfl rfl (by decide) (by omega) ?_ | refine S.mulNN (n := 2) rfl rfl (by omega) ?_ | refine R.mv rfl ?_ | refine R.loadR rfl rfl ?_ | refine R.load (by decide) rfl (by (repeat' (first | assumption | exact AHeap.set_same _ _ _ | refine AHeap.get_fresh ‹_› ?_ | refine AHeap.so ?_ ?_ | exact AHeap.n1 ‹_› | exact AHeap.n2 ‹_› | exact AHeap.ne_of ‹_› ‹_› | exact AHeap.n4 ‹_› ‹_› | exact AHeap.n5 ‹_› | exact AHeap.n6 ‹_› | exact AHeap.n7 ‹_› ‹_› | exact AHeap.n8 ‹_› ‹_›)); first | done | fail) rfl ?_ | refine S.addI rfl rfl (by omega) ?_ | refine S.subI rfl rfl (by omega) ?_ | refine S.addU rfl rfl ?_ | refine S.subU rfl rfl ?_ | refine S.addUc rfl (by decide) ?_ | refine S.subUc rfl (by decide) ?_ | refine S.arith rfl rfl rfl ?_ | refine S.convIU rfl (by omega) ?_ | refine S.convUI rfl (by omega) ?_ | refine R.convInt rfl ?_ | refine R.alloc rfl (fun b hb => ?_) | ((first | refine S.leq rfl rfl ?_ ?_ | refine S.geq rfl rfl ?_ ?_) <;> intro hlt <;> try (exfalso; omega))) | (refine S.op0 rfl ?_; first | refine S.storeS rfl rfl rfl (by rfl) rfl (by first | decide | exact Nat.le_refl _ | exact Nat.le_of_ble_eq_true rfl) ?_ | refine S.store rfl rfl (by (repeat' (first | assumption | exact AHeap.set_same _ _ _ | refine AHeap.get_fresh ‹_› ?_ | refine AHeap.so ?_ ?_ | exact AHeap.n1 ‹_› | exact AHeap.n2 ‹_› | exact AHeap.ne_of ‹_› ‹_› | exact AHeap.n4 ‹_› ‹_› | exact AHeap.n5 ‹_› | exact AHeap.n6 ‹_› | exact AHeap.n7 ‹_› ‹_› | exact AHeap.n8 ‹_› ‹_›)); first | done | fail) rfl rfl rfl (by rfl) rfl ?_) | refine S.skip rfl ?_ | refine S.skip0 rfl ?_ | refine S.seq ?_ | refine S.region ?_ | refine S.condT rfl ?_ | refine S.condF rfl ?_ | refine RRun.skip ?_ | refine RRun.block ?_ | refine RRun.inBlock ?_ | refine RRun.exit rfl ?_)
    have hae : a + (e - a) = e := by omega
    refine (show RRunG _ _ _ _ _ ((HL h q d.toList sp).set b (.box (over [AV.v (.int .u64 0)] 0 [AV.v (.int .u64 ((e - a : Nat) : Int))]))) _ from ?_)
    rw [hov, (HL_out h b q _ d.toList sp hpq hp0).1]
    refine RRun.loopIn (S.keep [0, 1, 6, 7, 8, 9] rfl (break_round q cap n a (e - a) modu (a + (e - a) / 4 * 2 - 1) b sp h hn (by omega) h8 hm1 hm2 (by omega) (by omega) (by omega) hpq d hd _ _ _ (fun z1 d1 hd1 p1 => ?_)))
    refine break_round q cap n a (e - a) modu (a + (e - a) / 4 * 2 - 1 + 1) b sp h hn (by omega) h8 hm1 hm2 (by omega) (by omega) (by omega) hpq d1 hd1 _ _ _ (fun z2 d2 hd2 p2 => ?_)
    refine break_round q cap n a (e - a) modu (a + (e - a) / 4 * 2 - 1 + 1 + 1) b sp h hn (by omega) h8 hm1 hm2 (by omega) (by omega) (by omega) hpq d2 hd2 _ _ _ (fun z3 d3 hd3 p3 => ?_)
    refine RRun.inLoop ?_
    repeat' (first | (refine S.op0 rfl (S.stE rfl rfl rfl (by simp only [List.length_set, Array.length_toList]; omega) ?_)) | refine S.nilK ?_ | (refine S.op rfl ?_; first | refine S.addNN (n := 1) rfl rfl (by omega) ?_ | refine S.addNN rfl rfl (by omega) ?_ | refine S.subNN (n := 1) rfl rfl (by omega) (by omega) ?_ | refine S.subNN rfl rfl (by omega) (by omega) ?_ | refine S.ix rfl rfl (by omega) ?_ | refine S.ldE (by decide) rfl (by omega) ?_ | refine S.quoNN (n := 4) rfl rfl (by decide) (by omega) ?_ | refine S.mulNN (n := 2) rfl rfl (by omega) ?_ | refine R.mv rfl ?_ | refine R.loadR rfl rfl ?_ | refine R.load (by decide) rfl (by (repeat' (first | assumption | exact AHeap.set_same _ _ _ | refine AHeap.get_fresh ‹_› ?_ | refine AHeap.so ?_ ?_ | exact AHeap.n1 ‹_› | exact AHeap.n2 ‹_› | exact AHeap.ne_of ‹_› ‹_› | exact AHeap.n4 ‹_› ‹_› | exact AHeap.n5 ‹_› | exact AHeap.n6 ‹_› | exact AHeap.n7 ‹_› ‹_› | exact AHeap.n8 ‹_› ‹_›)); first | done | fail) rfl ?_ | refine S.addI rfl rfl (by omega) ?_ | refine S.subI rfl rfl (by omega) ?_ | refine S.addU rfl rfl ?_ | refine S.subU rfl rfl ?_ | refine S.addUc rfl (by decide) ?_ | refine S.subUc rfl (by decide) ?_ | refine S.arith rfl rfl rfl ?_ | refine S.convIU rfl (by omega) ?_ | refine S.convUI rfl (by omega) ?_ | refine R.convInt rfl ?_ | refine R.alloc rfl (fun b hb => ?_) | ((first | refine S.leq rfl rfl ?_ ?_ | refine S.geq rfl rfl ?_ ?_) <;> intro hlt <;> try (exfalso; omega))) | (refine S.op0 rfl ?_; first | refine S.storeS rfl rfl rfl (by rfl) rfl (by first | decide | exact Nat.le_refl _ | exact Nat.le_of_ble_eq_true rfl) ?_ | refine S.store rfl rfl (by (repeat' (first | assumption | exact AHeap.set_same _ _ _ | refine AHeap.get_fresh ‹_› ?_ | refine AHeap.so ?_ ?_ | exact AHeap.n1 ‹_› | exact AHeap.n2 ‹_› | exact AHeap.ne_of ‹_› ‹_› | exact AHeap.n4 ‹_› ‹_› | exact AHeap.n5 ‹_› | exact AHeap.n6 ‹_› | exact AHeap.n7 ‹_› ‹_› | exact AHeap.n8 ‹_› ‹_›)); first | done | fail) rfl rfl rfl (by rfl) rfl ?_) | refine S.skip rfl ?_ | refine S.skip0 rfl ?_ | refine S.seq ?_ | refine S.region ?_ | refine S.condT rfl ?_ | refine S.condF rfl ?_ | refine RRun.skip ?_ | refine RRun.block ?_ | refine RRun.inBlock ?_ | refine RRun.exit rfl ?_)
    apply S.done rr109
    case hx => repeat (first | exact ResAt.nil | apply ResAt.tmp rfl | apply ResAt.cellA rfl (by (repeat' (first | assumption | exact AHeap.set_same _ _ _ | refine AHeap.get_fresh ‹_› ?_ | refine AHeap.so ?_ ?_ | exact AHeap.n1 ‹_› | exact AHeap.n2 ‹_› | exact AHeap.ne_of ‹_› ‹_› | exact AHeap.n4 ‹_› ‹_› | exact AHeap.n5 ‹_› | exact AHeap.n6 ‹_› | exact AHeap.n7 ‹_› ‹_› | exact AHeap.n8 ‹_› ‹_›)); first | done | fail) (by rfl) | apply ResAt.cell1 rfl (by (repeat' (first | assumption | exact AHeap.set_same _ _ _ | refine AHeap.get_fresh ‹_› ?_ | refine AHeap.so ?_ ?_ | exact AHeap.n1 ‹_› | exact AHeap.n2 ‹_› | exact AHeap.ne_of ‹_› ‹_› | exact AHeap.n4 ‹_› ‹_› | exact AHeap.n5 ‹_› | exact AHeap.n6 ‹_› | exact AHeap.n7 ‹_› ‹_› | exact AHeap.n8 ‹_› ‹_›)); first | done | fail) (by rfl))
    rw [hae] at p1 p2 p3
    exact ⟨_, _, .refl _, (HL_out h b q _ d3.toList sp hpq hp0).2, d3, hd3, Go.Sort.permIn_trans _ _ _ _ _ p1 (Go.Sort.permIn_trans _ _ _ _ _ p2 p3), rfl⟩
  ·
    repeat' (first | (refine S.op0 rfl (S.stE rfl rfl rfl (by simp only [List.length_set, Array.length_toList]; omega) ?_)) | refine S.nilK ?_ | (refine S.op rfl ?_; first | refine S.addNN (n := 1) rfl rfl (by omega) ?_ | refine S.addNN rfl rfl (by omega) ?_ | refine S.subNN (n := 1) rfl rfl (by omega) (by omega) ?_ | refine S.subNN rfl rfl (by omega) (by omega) ?_ | refine S.ix rfl rfl (by omega) ?_ | refine S.ldE (by decide) rfl (by omega) ?_ | refine R.mv rfl ?_ | refine R.loadR rfl rfl ?_ | refine R.load (by decide) rfl (by (repeat' (first | assumption | exact AHeap.set_same _ _ _ | refine AHeap.get_fresh ‹_› ?_ | refine AHeap.so ?_ ?_ | exact AHeap.n1 ‹_› | exact AHeap.n2 ‹_› | exact AHeap.ne_of ‹_› ‹_› | exact AHeap.n4 ‹_› ‹_› | exact AHeap.n5 ‹_› | exact AHeap.n6 ‹_› | exact AHeap.n7 ‹_› ‹_› | exact AHeap.n8 ‹_› ‹_›)); first | done | fail) rfl ?_ | refine S.addI rfl rfl (by omega) ?_ | refine S.subI rfl rfl (by omega) ?_ | refine S.addU rfl rfl ?_ | refine S.subU rfl rfl ?_ | refine S.addUc rfl (by decide) ?_ | refine S.subUc rfl (by decide) ?_ | refine S.arith rfl rfl rfl ?_ | refine S.convIU rfl (by omega) ?_ | refine S.convUI rfl (by omega) ?_ | refine R.convInt rfl ?_ | refine R.alloc rfl (fun b hb => ?_) | ((first | refine S.leq rfl rfl ?_ ?_ | refine S.geq rfl rfl ?_ ?_) <;> intro hlt <;> try (exfalso; omega))) | (refine S.op0 rfl ?_; first | refine S.storeS rfl rfl rfl (by rfl) rfl (by first | decide | exact Nat.le_refl _ | exact Nat.le_of_ble_eq_true rfl) ?_ | refine S.store rfl rfl (by (repeat' (first | assumption | exact AHeap.set_same _ _ _ | refine AHeap.get_fresh ‹_› ?_ | refine AHeap.so ?_ ?_ | exact AHeap.n1 ‹_› | exact AHeap.n2 ‹_› | exact AHeap.ne_of ‹_› ‹_› | exact AHeap.n4 ‹_› ‹_› | exact AHeap.n5 ‹_› | exact AHeap.n6 ‹_› | exact AHeap.n7 ‹_› ‹_› | exact AHeap.n8 ‹_› ‹_›)); first | done | fail) rfl rfl rfl (by rfl) rfl ?_) | refine S.skip rfl ?_ | refine S.skip0 rfl ?_ | refine S.seq ?_ | refine S.region ?_ | refine S.condT rfl ?_ | refine S.condF rfl ?_ | refine RRun.skip ?_ | refine RRun.block ?_ | refine RRun.inBlock ?_ | refine RRun.exit rfl ?_)
    apply S.done rr109
    case hx => repeat (first | exact ResAt.nil | apply ResAt.tmp rfl | apply ResAt.cellA rfl (by (repeat' (first | assumption | exact AHeap.set_same _ _ _ | refine AHeap.get_fresh ‹_› ?_ | refine AHeap.so ?_ ?_ | exact AHeap.n1 ‹_› | exact AHeap.n2 ‹_› | exact AHeap.ne_of ‹_› ‹_› | exact AHeap.n4 ‹_› ‹_› | exact AHeap.n5 ‹_› | exact AHeap.n6 ‹_› | exact AHeap.n7 ‹_› ‹_› | exact AHeap.n8 ‹_› ‹_›)); first | done | fail) (by rfl) | apply ResAt.cell1 rfl (by (repeat' (first | assumption | exact AHeap.set_same _ _ _ | refine AHeap.get_fresh ‹_› ?_ | refine AHeap.so ?_ ?_ | exact AHeap.n1 ‹_› | exact AHeap.n2 ‹_› | exact AHeap.ne_of ‹_› ‹_› | exact AHeap.n4 ‹_› ‹_› | exact AHeap.n5 ‹_› | exact AHeap.n6 ‹_› | exact AHeap.n7 ‹_› ‹_› | exact AHeap.n8 ‹_› ‹_›)); first | done | fail) (by rfl))
    exact ⟨_, _, .refl _, .refl _, d, hd, Go.Sort.permIn_refl d a e, rfl⟩

end Go.Proofs.Ytnmgamcmjjngcaa
