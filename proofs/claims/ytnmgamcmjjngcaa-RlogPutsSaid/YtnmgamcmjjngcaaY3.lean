import Derived.Test.YtnmgamcmjjngcaaY2
set_option linter.unusedVariables false
set_option linter.unusedSimpArgs false
namespace Go.Proofs.Ytnmgamcmjjngcaa
open Go.Av

/-! ### The reference's reader -/

def qdr (s : Option (List UInt8)) : List AV := [bys (dat s), bl s.isNone]
theorem qdr_nil (v : Bool) : ALes [.v (.slice none 0 0), .v (.bool v)] [bys [], bl v] := rdr_nil v

/-- (*plenum/plenumref01.Reader).fail -/
def r94 : RCode :=
  (.region [
    ⟨(some 2), none, .act, .mv (.tmp 0)⟩,
    ⟨(some 3), none, .act, .mv (.tmp 0)⟩,
    ⟨(some 4), none, .act, .nilCheck (.tmp 2)⟩,
    ⟨(some 5), none, .act, .fieldAddr 0 (.tmp 4)⟩,
    ⟨none, none, .act, .store 1 (.tmp 5) (.const (.slice none 0 0))⟩,
    ⟨(some 6), none, .act, .nilCheck (.tmp 3)⟩,
    ⟨(some 7), none, .act, .fieldAddr 1 (.tmp 6)⟩,
    ⟨none, none, .act, .store 1 (.tmp 7) (.const (.bool true))⟩])
theorem res94 : ∃ c, Try.f94.body = some c ∧ resCode Try.prog 8 c = some r94 := ⟨_, rfl, by kernel_rfl⟩
theorem rr94 : resRes Try.prog Try.f94.results.toList = some [] := by kernel_rfl
theorem qfail_spec (s : Option (List UInt8)) (p : Nat) (h : AHeap) (hp : h p = some (.box (qdr s))) : ACalls Try.prog 94 [ptr p] h (fun _ h' => h' = h.set p (.box (qdr none))) := by
  obtain ⟨c, hc1, hc2⟩ := res94
  refine ACalls.weak (ACalls.enter Try.func94 hc1 Try.ntmps94 hc2 (Nat.le_of_ble_eq_true rfl) rfl ?_)
  repeat' (first | refine S.nilK ?_ | (refine S.op rfl ?_; first | refine R.mv rfl ?_ | refine R.fieldAddr rfl ?_ | refine R.fieldAddrR rfl ?_ | refine R.nilCheck rfl ?_ | refine R.nilCheckR rfl ?_) | (refine S.op0 rfl ?_; first | refine S.storeS rfl rfl rfl (by rfl) rfl (by first | decide | exact Nat.le_refl _ | exact Nat.le_of_ble_eq_true rfl) ?_ | refine S.store rfl rfl (by (repeat' (first | assumption | exact AHeap.set_same _ _ _ | refine AHeap.get_fresh ‹_› ?_ | refine AHeap.so ?_ ?_ | exact AHeap.n1 ‹_› | exact AHeap.n2 ‹_› | exact AHeap.ne_of ‹_› ‹_› | exact AHeap.n4 ‹_› ‹_› | exact AHeap.n5 ‹_› | exact AHeap.n6 ‹_› | exact AHeap.n7 ‹_› ‹_› | exact AHeap.n8 ‹_› ‹_›)); first | done | fail) rfl rfl rfl (by rfl) rfl ?_) | refine S.skip rfl ?_ | refine S.skip0 rfl ?_ | refine S.seq ?_ | refine S.region ?_ | refine S.condT rfl ?_ | refine S.condF rfl ?_ | refine RRun.skip ?_ | refine RRun.block ?_ | refine RRun.inBlock ?_ | refine RRun.exit rfl ?_)
  apply S.done rr94
  case hx => repeat (first | exact ResAt.nil | apply ResAt.tmp rfl | apply ResAt.cellA rfl (by (repeat' (first | assumption | exact AHeap.set_same _ _ _ | refine AHeap.get_fresh ‹_› ?_ | refine AHeap.so ?_ ?_ | exact AHeap.n1 ‹_› | exact AHeap.n2 ‹_› | exact AHeap.ne_of ‹_› ‹_› | exact AHeap.n4 ‹_› ‹_› | exact AHeap.n5 ‹_› | exact AHeap.n6 ‹_› | exact AHeap.n7 ‹_› ‹_› | exact AHeap.n8 ‹_› ‹_›)); first | done | fail) (by rfl) | apply ResAt.cell1 rfl (by (repeat' (first | assumption | exact AHeap.set_same _ _ _ | refine AHeap.get_fresh ‹_› ?_ | refine AHeap.so ?_ ?_ | exact AHeap.n1 ‹_› | exact AHeap.n2 ‹_› | exact AHeap.ne_of ‹_› ‹_› | exact AHeap.n4 ‹_› ‹_› | exact AHeap.n5 ‹_› | exact AHeap.n6 ‹_› | exact AHeap.n7 ‹_› ‹_› | exact AHeap.n8 ‹_› ‹_›)); first | done | fail) (by rfl))
  refine ⟨_, _, .refl _, ?_, rfl⟩
  exact box_le (.box (qdr_nil true))

/-- (*plenum/plenumref01.Reader).End -/
def r77 : RCode :=
  (.seq (.region [
    ⟨(some 2), none, .act, .mv (.const (.int .i64 0))⟩])
  (.seq (.seq (.region [
    ⟨(some 3), none, .act, .mv (.tmp 0)⟩,
    ⟨(some 4), none, .act, .nilCheck (.tmp 3)⟩,
    ⟨(some 5), none, .act, .fieldAddr 1 (.tmp 4)⟩,
    ⟨(some 6), none, .act, .load false 1 (.tmp 5)⟩,
    ⟨(some 7), none, .act, .mv (.tmp 6)⟩,
    ⟨(some 8), (some (7, false)), .act, .mv (.tmp 0)⟩,
    ⟨(some 9), (some (7, false)), .act, .nilCheck (.tmp 8)⟩,
    ⟨(some 10), (some (7, false)), .act, .fieldAddr 0 (.tmp 9)⟩,
    ⟨(some 11), (some (7, false)), .act, .load false 1 (.tmp 10)⟩,
    ⟨(some 12), (some (7, false)), .act, .len (.tmp 11)⟩,
    ⟨(some 13), (some (7, false)), .act, .bin .gtr (.tmp 12) (.const (.int .i64 0))⟩,
    ⟨(some 14), none, .act, .pick (.tmp 7) (.const (.bool true)) (.tmp 13)⟩])
  (.cond (.tmp 14)
   (.seq (.region [
     ⟨(some 2), none, .act, .mv (.const (.int .i64 30))⟩])
   .ret)
   .skip))
  (.seq (.region [
    ⟨(some 2), none, .act, .mv (.const (.int .i64 0))⟩])
  .ret)))
theorem res77 : ∃ c, Try.f77.body = some c ∧ resCode Try.prog 15 c = some r77 := ⟨_, rfl, by kernel_rfl⟩
theorem rr77 : resRes Try.prog Try.f77.results.toList = some [.tmp 2] := by kernel_rfl
theorem qEnd_spec (s : Option (List UInt8)) (hs : (dat s).length ≤ 140737488355328) (p : Nat) (h : AHeap) (hp : h p = some (.box (qdr s))) :
    ACalls Try.prog 77 [ptr p] h (fun x h' => x = i64 (if rdE s then 0 else 30) ∧ h' = h) := by
  obtain ⟨c, hc1, hc2⟩ := res77
  refine ACalls.enter Try.func77 hc1 Try.ntmps77 hc2 (Nat.le_of_ble_eq_true rfl) rfl ?_
  match s, hs, hp with
  | none, hs, hp =>
    repeat' (first | refine S.nilK ?_ | (refine S.op rfl ?_; first | refine R.mv rfl ?_ | refine R.fieldAddr rfl ?_ | refine R.fieldAddrR rfl ?_ | refine R.nilCheck rfl ?_ | refine R.nilCheckR rfl ?_ | refine R.loadR rfl rfl ?_ | refine R.load (by decide) rfl (by (repeat' (first | assumption | exact AHeap.set_same _ _ _ | refine AHeap.get_fresh ‹_› ?_ | refine AHeap.so ?_ ?_ | exact AHeap.n1 ‹_› | exact AHeap.n2 ‹_› | exact AHeap.ne_of ‹_› ‹_› | exact AHeap.n4 ‹_› ‹_› | exact AHeap.n5 ‹_› | exact AHeap.n6 ‹_› | exact AHeap.n7 ‹_› ‹_› | exact AHeap.n8 ‹_› ‹_›)); first | done | fail) rfl ?_ | refine R.pickT rfl rfl ?_ | refine R.pickF rfl rfl ?_ | refine R.len rfl ?_ | refine R.lenA rfl ?_ | refine R.lenStr rfl ?_ | ((first | refine S.gtr rfl rfl ?_ ?_) <;> intro hlt <;> try (exfalso; omega))) | refine S.skip rfl ?_ | refine S.skip0 rfl ?_ | refine S.seq ?_ | refine S.region ?_ | refine S.condT rfl ?_ | refine S.condF rfl ?_ | refine RRun.skip ?_ | refine RRun.block ?_ | refine RRun.inBlock ?_ | refine RRun.exit rfl ?_)
    apply S.ret rr77
    case hx => repeat (first | exact ResAt.nil | apply ResAt.tmp rfl | apply ResAt.cellA rfl (by (repeat' (first | assumption | exact AHeap.set_same _ _ _ | refine AHeap.get_fresh ‹_› ?_ | refine AHeap.so ?_ ?_ | exact AHeap.n1 ‹_› | exact AHeap.n2 ‹_› | exact AHeap.ne_of ‹_› ‹_› | exact AHeap.n4 ‹_› ‹_› | exact AHeap.n5 ‹_› | exact AHeap.n6 ‹_› | exact AHeap.n7 ‹_› ‹_› | exact AHeap.n8 ‹_› ‹_›)); first | done | fail) (by rfl) | apply ResAt.cell1 rfl (by (repeat' (first | assumption | exact AHeap.set_same _ _ _ | refine AHeap.get_fresh ‹_› ?_ | refine AHeap.so ?_ ?_ | exact AHeap.n1 ‹_› | exact AHeap.n2 ‹_› | exact AHeap.ne_of ‹_› ‹_› | exact AHeap.n4 ‹_› ‹_› | exact AHeap.n5 ‹_› | exact AHeap.n6 ‹_› | exact AHeap.n7 ‹_› ‹_› | exact AHeap.n8 ‹_› ‹_›)); first | done | fail) (by rfl))
    exact ⟨rfl, rfl⟩
  | some [], hs, hp =>
    have hz : (Go.Av.byteCells (dat (some []))).length = 0 := rfl
    repeat' (first | refine S.nilK ?_ | (refine S.op rfl ?_; first | refine R.mv rfl ?_ | refine R.fieldAddr rfl ?_ | refine R.fieldAddrR rfl ?_ | refine R.nilCheck rfl ?_ | refine R.nilCheckR rfl ?_ | refine R.loadR rfl rfl ?_ | refine R.load (by decide) rfl (by (repeat' (first | assumption | exact AHeap.set_same _ _ _ | refine AHeap.get_fresh ‹_› ?_ | refine AHeap.so ?_ ?_ | exact AHeap.n1 ‹_› | exact AHeap.n2 ‹_› | exact AHeap.ne_of ‹_› ‹_› | exact AHeap.n4 ‹_› ‹_› | exact AHeap.n5 ‹_› | exact AHeap.n6 ‹_› | exact AHeap.n7 ‹_› ‹_› | exact AHeap.n8 ‹_› ‹_›)); first | done | fail) rfl ?_ | refine R.pickT rfl rfl ?_ | refine R.pickF rfl rfl ?_ | refine R.len rfl ?_ | refine R.lenA rfl ?_ | refine R.lenStr rfl ?_ | ((first | refine S.gtr rfl rfl ?_ ?_) <;> intro hlt <;> try (exfalso; omega))) | refine S.skip rfl ?_ | refine S.skip0 rfl ?_ | refine S.seq ?_ | refine S.region ?_ | refine S.condT rfl ?_ | refine S.condF rfl ?_ | refine RRun.skip ?_ | refine RRun.block ?_ | refine RRun.inBlock ?_ | refine RRun.exit rfl ?_)
    apply S.ret rr77
    case hx => repeat (first | exact ResAt.nil | apply ResAt.tmp rfl | apply ResAt.cellA rfl (by (repeat' (first | assumption | exact AHeap.set_same _ _ _ | refine AHeap.get_fresh ‹_› ?_ | refine AHeap.so ?_ ?_ | exact AHeap.n1 ‹_› | exact AHeap.n2 ‹_› | exact AHeap.ne_of ‹_› ‹_› | exact AHeap.n4 ‹_› ‹_› | exact AHeap.n5 ‹_› | exact AHeap.n6 ‹_› | exact AHeap.n7 ‹_› ‹_› | exact AHeap.n8 ‹_› ‹_›)); first | done | fail) (by rfl) | apply ResAt.cell1 rfl (by (repeat' (first | assumption | exact AHeap.set_same _ _ _ | refine AHeap.get_fresh ‹_› ?_ | refine AHeap.so ?_ ?_ | exact AHeap.n1 ‹_› | exact AHeap.n2 ‹_› | exact AHeap.ne_of ‹_› ‹_› | exact AHeap.n4 ‹_› ‹_› | exact AHeap.n5 ‹_› | exact AHeap.n6 ‹_› | exact AHeap.n7 ‹_› ‹_› | exact AHeap.n8 ‹_› ‹_›)); first | done | fail) (by rfl))
    exact ⟨rfl, rfl⟩
  | some (x :: r), hs, hp =>
    have hz : 0 < (Go.Av.byteCells (dat (some (x :: r)))).length := by rw [len_bytes]; simp [dat]
    repeat' (first | refine S.nilK ?_ | (refine S.op rfl ?_; first | refine R.mv rfl ?_ | refine R.fieldAddr rfl ?_ | refine R.fieldAddrR rfl ?_ | refine R.nilCheck rfl ?_ | refine R.nilCheckR rfl ?_ | refine R.loadR rfl rfl ?_ | refine R.load (by decide) rfl (by (repeat' (first | assumption | exact AHeap.set_same _ _ _ | refine AHeap.get_fresh ‹_› ?_ | refine AHeap.so ?_ ?_ | exact AHeap.n1 ‹_› | exact AHeap.n2 ‹_› | exact AHeap.ne_of ‹_› ‹_› | exact AHeap.n4 ‹_› ‹_› | exact AHeap.n5 ‹_› | exact AHeap.n6 ‹_› | exact AHeap.n7 ‹_› ‹_› | exact AHeap.n8 ‹_› ‹_›)); first | done | fail) rfl ?_ | refine R.pickT rfl rfl ?_ | refine R.pickF rfl rfl ?_ | refine R.len rfl ?_ | refine R.lenA rfl ?_ | refine R.lenStr rfl ?_ | ((first | refine S.gtr rfl rfl ?_ ?_) <;> intro hlt <;> try (exfalso; omega))) | refine S.skip rfl ?_ | refine S.skip0 rfl ?_ | refine S.seq ?_ | refine S.region ?_ | refine S.condT rfl ?_ | refine S.condF rfl ?_ | refine RRun.skip ?_ | refine RRun.block ?_ | refine RRun.inBlock ?_ | refine RRun.exit rfl ?_)
    apply S.ret rr77
    case hx => repeat (first | exact ResAt.nil | apply ResAt.tmp rfl | apply ResAt.cellA rfl (by (repeat' (first | assumption | exact AHeap.set_same _ _ _ | refine AHeap.get_fresh ‹_› ?_ | refine AHeap.so ?_ ?_ | exact AHeap.n1 ‹_› | exact AHeap.n2 ‹_› | exact AHeap.ne_of ‹_› ‹_› | exact AHeap.n4 ‹_› ‹_› | exact AHeap.n5 ‹_› | exact AHeap.n6 ‹_› | exact AHeap.n7 ‹_› ‹_› | exact AHeap.n8 ‹_› ‹_›)); first | done | fail) (by rfl) | apply ResAt.cell1 rfl (by (repeat' (first | assumption | exact AHeap.set_same _ _ _ | refine AHeap.get_fresh ‹_› ?_ | refine AHeap.so ?_ ?_ | exact AHeap.n1 ‹_› | exact AHeap.n2 ‹_› | exact AHeap.ne_of ‹_› ‹_› | exact AHeap.n4 ‹_› ‹_› | exact AHeap.n5 ‹_› | exact AHeap.n6 ‹_› | exact AHeap.n7 ‹_› ‹_› | exact AHeap.n8 ‹_› ‹_›)); first | done | fail) (by rfl))
    exact ⟨rfl, rfl⟩

def r76l0 : RCode :=
  (.seq (.seq (.region [
    ⟨(some 8), none, .act, .mv (.tmp 6)⟩,
    ⟨(some 9), none, .act, .mv (.tmp 0)⟩,
    ⟨(some 10), none, .act, .nilCheck (.tmp 9)⟩,
    ⟨(some 11), none, .act, .fieldAddr 0 (.tmp 10)⟩,
    ⟨(some 12), none, .act, .load false 1 (.tmp 11)⟩,
    ⟨(some 13), none, .act, .len (.tmp 12)⟩,
    ⟨(some 14), none, .act, .bin .lss (.tmp 8) (.tmp 13)⟩,
    ⟨(some 15), none, .act, .mv (.tmp 14)⟩,
    ⟨(some 16), (some (15, true)), .act, .mv (.tmp 6)⟩,
    ⟨(some 17), (some (15, true)), .act, .bin .lss (.tmp 16) (.const (.int .i64 10))⟩,
    ⟨(some 18), none, .act, .pick (.tmp 15) (.tmp 17) (.const (.bool false))⟩])
  (.cond (.tmp 18)
   .skip
   (.exit 0)))
  (.seq (.block 1
   (.seq (.region [
     ⟨(some 21), none, .act, .mv (.tmp 0)⟩,
     ⟨(some 22), none, .act, .nilCheck (.tmp 21)⟩,
     ⟨(some 23), none, .act, .fieldAddr 0 (.tmp 22)⟩,
     ⟨(some 24), none, .act, .load false 1 (.tmp 23)⟩,
     ⟨(some 25), none, .act, .mv (.tmp 6)⟩,
     ⟨(some 26), none, .act, .indexAddr 1 (.tmp 24) (.tmp 25)⟩,
     ⟨(some 27), none, .act, .load false 1 (.tmp 26)⟩,
     ⟨(some 7), none, .act, .mv (.tmp 27)⟩])
   (.seq (.seq (.region [
     ⟨(some 28), none, .act, .mv (.tmp 6)⟩,
     ⟨(some 29), none, .act, .eq false .int (.tmp 28) (.const (.int .i64 0))⟩,
     ⟨(some 30), none, .act, .mv (.tmp 29)⟩,
     ⟨(some 31), (some (30, true)), .act, .mv (.tmp 7)⟩,
     ⟨(some 32), (some (30, true)), .act, .eq false .int (.tmp 31) (.const (.int .u8 128))⟩,
     ⟨(some 33), none, .act, .pick (.tmp 30) (.tmp 32) (.const (.bool false))⟩,
     ⟨(some 34), none, .act, .mv (.tmp 33)⟩,
     ⟨(some 35), (some (34, false)), .act, .mv (.tmp 5)⟩,
     ⟨(some 36), (some (34, false)), .act, .bin .geq (.tmp 35) (.const (.int .u64 144115188075855872))⟩,
     ⟨(some 37), none, .act, .pick (.tmp 34) (.const (.bool true)) (.tmp 36)⟩])
   (.cond (.tmp 37)
    (.exit 0)
    .skip))
   (.seq (.region [
     ⟨(some 38), none, .act, .mv (.tmp 5)⟩,
     ⟨(some 39), none, .act, .bin .mul (.tmp 38) (.const (.int .u64 128))⟩,
     ⟨(some 40), none, .act, .mv (.tmp 7)⟩,
     ⟨(some 41), none, .act, .bin .rem (.tmp 40) (.const (.int .u8 128))⟩,
     ⟨(some 42), none, .act, .convInt .u64 (.tmp 41)⟩,
     ⟨(some 43), none, .act, .bin .add (.tmp 39) (.tmp 42)⟩,
     ⟨(some 5), none, .act, .mv (.tmp 43)⟩])
   (.seq (.region [
     ⟨(some 44), none, .act, .mv (.tmp 7)⟩,
     ⟨(some 45), none, .act, .bin .lss (.tmp 44) (.const (.int .u8 128))⟩])
   (.cond (.tmp 45)
    (.seq (.seq (.region [
      ⟨(some 46), none, .act, .mv (.tmp 5)⟩,
      ⟨(some 47), none, .act, .mv (.tmp 1)⟩,
      ⟨(some 48), none, .act, .bin .gtr (.tmp 46) (.tmp 47)⟩])
    (.cond (.tmp 48)
     (.exit 0)
     .skip))
    (.seq (.region [
      ⟨(some 49), none, .act, .mv (.tmp 0)⟩,
      ⟨(some 50), none, .act, .mv (.tmp 0)⟩,
      ⟨(some 51), none, .act, .nilCheck (.tmp 50)⟩,
      ⟨(some 52), none, .act, .fieldAddr 0 (.tmp 51)⟩,
      ⟨(some 53), none, .act, .load false 1 (.tmp 52)⟩,
      ⟨(some 54), none, .act, .mv (.tmp 6)⟩,
      ⟨(some 55), none, .act, .bin .add (.tmp 54) (.const (.int .i64 1))⟩,
      ⟨(some 56), none, .act, .sliceSl 1 (.tmp 53) (some (.tmp 55)) none none⟩,
      ⟨(some 57), none, .act, .nilCheck (.tmp 49)⟩,
      ⟨(some 58), none, .act, .fieldAddr 0 (.tmp 57)⟩,
      ⟨none, none, .act, .store 1 (.tmp 58) (.tmp 56)⟩])
    (.seq (.region [
      ⟨(some 59), none, .act, .mv (.tmp 5)⟩,
      ⟨(some 4), none, .act, .mv (.tmp 59)⟩])
    .ret)))
    .skip))))))
  (.region [
    ⟨(some 19), none, .act, .mv (.tmp 6)⟩,
    ⟨(some 20), none, .act, .bin .add (.tmp 19) (.const (.int .i64 1))⟩,
    ⟨(some 6), none, .act, .mv (.tmp 20)⟩])))
/-- (*plenum/plenumref01.Reader).N -/
def r76 : RCode :=
  (.seq (.region [
    ⟨(some 4), none, .act, .mv (.const (.int .u64 0))⟩])
  (.seq (.region [
    ⟨(some 5), none, .act, .mv (.const (.int .u64 0))⟩])
  (.seq (.seq (.region [
    ⟨(some 6), none, .act, .mv (.const (.int .i64 0))⟩])
  (.block 0
   (.loop r76l0)))
  (.seq (.region [
    ⟨(some 60), none, .act, .mv (.tmp 0)⟩,
    ⟨(some 61), none, .act, .call 94 [(.tmp 60)]⟩])
  (.seq (.region [
    ⟨(some 4), none, .act, .mv (.const (.int .u64 0))⟩])
  .ret)))))
theorem res76 : ∃ c, Try.f76.body = some c ∧ resCode Try.prog 62 c = some r76 := ⟨_, rfl, by kernel_rfl⟩
theorem rr76 : resRes Try.prog Try.f76.results.toList = some [.tmp 4] := by kernel_rfl
theorem qstep_bad (s : Option (List UInt8)) (hl : (dat s).length ≤ 140737488355328) (most : UInt64) (p : Nat) (h : AHeap) (hp : h p = some (.box (qdr s))) (k : List RT) (Q : AV → AHeap → Prop)
    (i n : Nat) (hie : i < (dat s).length) (c : UInt8) (hc : c.toNat < 256) (h1 : (Go.Av.byteCells (dat s))[((i : Nat) : Int).toNat]? = some (Go.Av.byteCell c)) (hi10 : i ≤ 10) (hx : i = 10 ∨ (i = 0 ∧ c.toNat = 128) ∨ 144115188075855872 ≤ n)
    (hk : RRun Try.prog Try.f76 62 k (Env.get [(0, ptr p)]) h Q) :
    RRun Try.prog Try.f76 62 (.code r76l0 :: .inLoop r76l0 :: .inBlock 0 :: k) (Env.get [(6, i64 i), (5, un n), (0, ptr p), (1, u64 most)]) h Q := by
  have hlen0 := len_bytes (dat s)
  repeat' (first | refine S.nilK ?_ | (refine S.op rfl ?_; first | refine R.indexAddr rfl rfl (by omega) h1 ?_ | refine R.mv rfl ?_ | refine R.fieldAddr rfl ?_ | refine R.fieldAddrR rfl ?_ | refine R.nilCheck rfl ?_ | refine R.nilCheckR rfl ?_ | refine R.loadR rfl rfl ?_ | refine R.load (by decide) rfl (by (repeat' (first | assumption | exact AHeap.set_same _ _ _ | refine AHeap.get_fresh ‹_› ?_ | refine AHeap.so ?_ ?_ | exact AHeap.n1 ‹_› | exact AHeap.n2 ‹_› | exact AHeap.ne_of ‹_› ‹_› | exact AHeap.n4 ‹_› ‹_› | exact AHeap.n5 ‹_› | exact AHeap.n6 ‹_› | exact AHeap.n7 ‹_› ‹_› | exact AHeap.n8 ‹_› ‹_›)); first | done | fail) rfl ?_ | refine S.addI rfl rfl (by omega) ?_ | refine S.addU rfl rfl ?_ | refine S.addUc rfl (by decide) ?_ | refine S.arith rfl rfl rfl ?_ | refine R.pickT rfl rfl ?_ | refine R.pickF rfl rfl ?_ | refine R.len rfl ?_ | refine R.lenA rfl ?_ | refine R.lenStr rfl ?_ | refine S.convIU rfl (by omega) ?_ | refine S.convUI rfl (by omega) ?_ | refine R.convInt rfl ?_ | refine R.eqPtrNil rfl rfl ?_ | ((first | refine S.lss rfl rfl ?_ ?_ | refine S.gtr rfl rfl ?_ ?_ | refine S.geq rfl rfl ?_ ?_ | refine S.eqInt rfl rfl ?_ ?_) <;> intro hlt <;> try (exfalso; omega))) | (refine S.op0 rfl ?_; first | refine S.storeS rfl rfl rfl (by rfl) rfl (by first | decide | exact Nat.le_refl _ | exact Nat.le_of_ble_eq_true rfl) ?_ | refine S.store rfl rfl (by (repeat' (first | assumption | exact AHeap.set_same _ _ _ | refine AHeap.get_fresh ‹_› ?_ | refine AHeap.so ?_ ?_ | exact AHeap.n1 ‹_› | exact AHeap.n2 ‹_› | exact AHeap.ne_of ‹_› ‹_› | exact AHeap.n4 ‹_› ‹_› | exact AHeap.n5 ‹_› | exact AHeap.n6 ‹_› | exact AHeap.n7 ‹_› ‹_› | exact AHeap.n8 ‹_› ‹_›)); first | done | fail) rfl rfl rfl (by rfl) rfl ?_) | refine S.skip rfl ?_ | refine S.skip0 rfl ?_ | refine S.seq ?_ | refine S.region ?_ | refine S.condT rfl ?_ | refine S.condF rfl ?_ | refine RRun.skip ?_ | refine RRun.block ?_ | refine RRun.inBlock ?_ | refine RRun.exit rfl ?_)
  all_goals exact S.keep [0] rfl hk

theorem qstep_big (s : Option (List UInt8)) (hl : (dat s).length ≤ 140737488355328) (most : UInt64) (p : Nat) (h : AHeap) (hp : h p = some (.box (qdr s))) (k : List RT) (Q : AV → AHeap → Prop)
    (i n : Nat) (hie : i < (dat s).length) (c : UInt8) (hc : c.toNat < 256) (h1 : (Go.Av.byteCells (dat s))[((i : Nat) : Int).toNat]? = some (Go.Av.byteCell c)) (hi10 : i ≤ 10) (hx : ¬ (i = 10 ∨ (i = 0 ∧ c.toNat = 128) ∨ 144115188075855872 ≤ n)) (hc8 : c.toNat < 128) (hm : most.toNat < n * 128 + c.toNat % 128)
    (hk : RRun Try.prog Try.f76 62 k (Env.get [(0, ptr p)]) h Q) :
    RRun Try.prog Try.f76 62 (.code r76l0 :: .inLoop r76l0 :: .inBlock 0 :: k) (Env.get [(6, i64 i), (5, un n), (0, ptr p), (1, u64 most)]) h Q := by
  have hlen0 := len_bytes (dat s)
  repeat' (first | refine S.nilK ?_ | (refine S.op rfl ?_; first | refine R.indexAddr rfl rfl (by omega) h1 ?_ | refine S.mulN (m := 128) (by omega) rfl ?_ | refine S.rem8 rfl ?_ | refine S.convU (by omega) rfl ?_ | refine S.addN (by omega) rfl rfl ?_ | refine R.mv rfl ?_ | refine R.fieldAddr rfl ?_ | refine R.fieldAddrR rfl ?_ | refine R.nilCheck rfl ?_ | refine R.nilCheckR rfl ?_ | refine R.loadR rfl rfl ?_ | refine R.load (by decide) rfl (by (repeat' (first | assumption | exact AHeap.set_same _ _ _ | refine AHeap.get_fresh ‹_› ?_ | refine AHeap.so ?_ ?_ | exact AHeap.n1 ‹_› | exact AHeap.n2 ‹_› | exact AHeap.ne_of ‹_› ‹_› | exact AHeap.n4 ‹_› ‹_› | exact AHeap.n5 ‹_› | exact AHeap.n6 ‹_› | exact AHeap.n7 ‹_› ‹_› | exact AHeap.n8 ‹_› ‹_›)); first | done | fail) rfl ?_ | refine S.addI rfl rfl (by omega) ?_ | refine S.addU rfl rfl ?_ | refine S.addUc rfl (by decide) ?_ | refine S.arith rfl rfl rfl ?_ | refine R.pickT rfl rfl ?_ | refine R.pickF rfl rfl ?_ | refine R.len rfl ?_ | refine R.lenA rfl ?_ | refine R.lenStr rfl ?_ | refine S.convIU rfl (by omega) ?_ | refine S.convUI rfl (by omega) ?_ | refine R.convInt rfl ?_ | refine R.eqPtrNil rfl rfl ?_ | ((first | refine S.lss rfl rfl ?_ ?_ | refine S.gtr rfl rfl ?_ ?_ | refine S.geq rfl rfl ?_ ?_ | refine S.eqInt rfl rfl ?_ ?_) <;> intro hlt <;> try (exfalso; omega))) | (refine S.op0 rfl ?_; first | refine S.storeS rfl rfl rfl (by rfl) rfl (by first | decide | exact Nat.le_refl _ | exact Nat.le_of_ble_eq_true rfl) ?_ | refine S.store rfl rfl (by (repeat' (first | assumption | exact AHeap.set_same _ _ _ | refine AHeap.get_fresh ‹_› ?_ | refine AHeap.so ?_ ?_ | exact AHeap.n1 ‹_› | exact AHeap.n2 ‹_› | exact AHeap.ne_of ‹_› ‹_› | exact AHeap.n4 ‹_› ‹_› | exact AHeap.n5 ‹_› | exact AHeap.n6 ‹_› | exact AHeap.n7 ‹_› ‹_› | exact AHeap.n8 ‹_› ‹_›)); first | done | fail) rfl rfl rfl (by rfl) rfl ?_) | refine S.skip rfl ?_ | refine S.skip0 rfl ?_ | refine S.seq ?_ | refine S.region ?_ | refine S.condT rfl ?_ | refine S.condF rfl ?_ | refine RRun.skip ?_ | refine RRun.block ?_ | refine RRun.inBlock ?_ | refine RRun.exit rfl ?_)
  all_goals exact S.keep [0] rfl hk

theorem qstep_end (s : Option (List UInt8)) (hl : (dat s).length ≤ 140737488355328) (most : UInt64) (p : Nat) (h : AHeap) (hp : h p = some (.box (qdr s))) (k : List RT) (Q : AV → AHeap → Prop)
    (i n : Nat) (hie : i < (dat s).length) (c : UInt8) (hc : c.toNat < 256) (h1 : (Go.Av.byteCells (dat s))[((i : Nat) : Int).toNat]? = some (Go.Av.byteCell c)) (hi10 : i ≤ 10) (hx : ¬ (i = 10 ∨ (i = 0 ∧ c.toNat = 128) ∨ 144115188075855872 ≤ n)) (hc8 : c.toNat < 128) (hm : ¬ most.toNat < n * 128 + c.toNat % 128)
    (hk : Q (un (n * 128 + c.toNat % 128)) (h.set p (.box (over (qdr s) (0 + 0) [.sl 1 ((Go.Av.byteCells (dat s)).drop (i + 1)) .ro])))) :
    RRun Try.prog Try.f76 62 (.code r76l0 :: .inLoop r76l0 :: .inBlock 0 :: k) (Env.get [(6, i64 i), (5, un n), (0, ptr p), (1, u64 most)]) h Q := by
  have hlen0 := len_bytes (dat s)
  repeat' (first | refine S.nilK ?_ | (refine S.op rfl ?_; first | refine R.indexAddr rfl rfl (by omega) h1 ?_ | refine S.mulN (m := 128) (by omega) rfl ?_ | refine S.rem8 rfl ?_ | refine S.convU (by omega) rfl ?_ | refine S.addN (by omega) rfl rfl ?_ | refine S.sliceL rfl rfl (by omega) (by omega) (by decide) ?_ | refine R.mv rfl ?_ | refine R.fieldAddr rfl ?_ | refine R.fieldAddrR rfl ?_ | refine R.nilCheck rfl ?_ | refine R.nilCheckR rfl ?_ | refine R.loadR rfl rfl ?_ | refine R.load (by decide) rfl (by (repeat' (first | assumption | exact AHeap.set_same _ _ _ | refine AHeap.get_fresh ‹_› ?_ | refine AHeap.so ?_ ?_ | exact AHeap.n1 ‹_› | exact AHeap.n2 ‹_› | exact AHeap.ne_of ‹_› ‹_› | exact AHeap.n4 ‹_› ‹_› | exact AHeap.n5 ‹_› | exact AHeap.n6 ‹_› | exact AHeap.n7 ‹_› ‹_› | exact AHeap.n8 ‹_› ‹_›)); first | done | fail) rfl ?_ | refine S.addI rfl rfl (by omega) ?_ | refine S.addU rfl rfl ?_ | refine S.addUc rfl (by decide) ?_ | refine S.arith rfl rfl rfl ?_ | refine R.pickT rfl rfl ?_ | refine R.pickF rfl rfl ?_ | refine R.len rfl ?_ | refine R.lenA rfl ?_ | refine R.lenStr rfl ?_ | refine S.convIU rfl (by omega) ?_ | refine S.convUI rfl (by omega) ?_ | refine R.convInt rfl ?_ | refine R.eqPtrNil rfl rfl ?_ | ((first | refine S.lss rfl rfl ?_ ?_ | refine S.gtr rfl rfl ?_ ?_ | refine S.geq rfl rfl ?_ ?_ | refine S.eqInt rfl rfl ?_ ?_) <;> intro hlt <;> try (exfalso; omega))) | (refine S.op0 rfl ?_; first | refine S.storeS rfl rfl rfl (by rfl) rfl (by first | decide | exact Nat.le_refl _ | exact Nat.le_of_ble_eq_true rfl) ?_ | refine S.store rfl rfl (by (repeat' (first | assumption | exact AHeap.set_same _ _ _ | refine AHeap.get_fresh ‹_› ?_ | refine AHeap.so ?_ ?_ | exact AHeap.n1 ‹_› | exact AHeap.n2 ‹_› | exact AHeap.ne_of ‹_› ‹_› | exact AHeap.n4 ‹_› ‹_› | exact AHeap.n5 ‹_› | exact AHeap.n6 ‹_› | exact AHeap.n7 ‹_› ‹_› | exact AHeap.n8 ‹_› ‹_›)); first | done | fail) rfl rfl rfl (by rfl) rfl ?_) | refine S.skip rfl ?_ | refine S.skip0 rfl ?_ | refine S.seq ?_ | refine S.region ?_ | refine S.condT rfl ?_ | refine S.condF rfl ?_ | refine RRun.skip ?_ | refine RRun.block ?_ | refine RRun.inBlock ?_ | refine RRun.exit rfl ?_)
  all_goals
    apply S.ret rr76
    case hx => repeat (first | exact ResAt.nil | apply ResAt.tmp rfl | apply ResAt.cellA rfl (by (repeat' (first | assumption | exact AHeap.set_same _ _ _ | refine AHeap.get_fresh ‹_› ?_ | refine AHeap.so ?_ ?_ | exact AHeap.n1 ‹_› | exact AHeap.n2 ‹_› | exact AHeap.ne_of ‹_› ‹_› | exact AHeap.n4 ‹_› ‹_› | exact AHeap.n5 ‹_› | exact AHeap.n6 ‹_› | exact AHeap.n7 ‹_› ‹_› | exact AHeap.n8 ‹_› ‹_›)); first | done | fail) (by rfl) | apply ResAt.cell1 rfl (by (repeat' (first | assumption | exact AHeap.set_same _ _ _ | refine AHeap.get_fresh ‹_› ?_ | refine AHeap.so ?_ ?_ | exact AHeap.n1 ‹_› | exact AHeap.n2 ‹_› | exact AHeap.ne_of ‹_› ‹_› | exact AHeap.n4 ‹_› ‹_› | exact AHeap.n5 ‹_› | exact AHeap.n6 ‹_› | exact AHeap.n7 ‹_› ‹_› | exact AHeap.n8 ‹_› ‹_›)); first | done | fail) (by rfl))
    exact hk

theorem qstep_more (s : Option (List UInt8)) (hl : (dat s).length ≤ 140737488355328) (most : UInt64) (p : Nat) (h : AHeap) (hp : h p = some (.box (qdr s))) (k : List RT) (Q : AV → AHeap → Prop)
    (i n : Nat) (hie : i < (dat s).length) (c : UInt8) (hc : c.toNat < 256) (h1 : (Go.Av.byteCells (dat s))[((i : Nat) : Int).toNat]? = some (Go.Av.byteCell c)) (hi10 : i ≤ 10) (hx : ¬ (i = 10 ∨ (i = 0 ∧ c.toNat = 128) ∨ 144115188075855872 ≤ n)) (hc8 : ¬ c.toNat < 128)
    (hk : RRun Try.prog Try.f76 62 (.inLoop r76l0 :: .inBlock 0 :: k) (Env.get [(6, i64 (i + 1 : Nat)), (5, un (n * 128 + c.toNat % 128)), (0, ptr p), (1, u64 most)]) h Q) :
    RRun Try.prog Try.f76 62 (.code r76l0 :: .inLoop r76l0 :: .inBlock 0 :: k) (Env.get [(6, i64 i), (5, un n), (0, ptr p), (1, u64 most)]) h Q := by
  have hlen0 := len_bytes (dat s)
  repeat' (first | refine S.nilK ?_ | (refine S.op rfl ?_; first | refine R.indexAddr rfl rfl (by omega) h1 ?_ | refine S.mulN (m := 128) (by omega) rfl ?_ | refine S.rem8 rfl ?_ | refine S.convU (by omega) rfl ?_ | refine S.addN (by omega) rfl rfl ?_ | refine R.mv rfl ?_ | refine R.fieldAddr rfl ?_ | refine R.fieldAddrR rfl ?_ | refine R.nilCheck rfl ?_ | refine R.nilCheckR rfl ?_ | refine R.loadR rfl rfl ?_ | refine R.load (by decide) rfl (by (repeat' (first | assumption | exact AHeap.set_same _ _ _ | refine AHeap.get_fresh ‹_› ?_ | refine AHeap.so ?_ ?_ | exact AHeap.n1 ‹_› | exact AHeap.n2 ‹_› | exact AHeap.ne_of ‹_› ‹_› | exact AHeap.n4 ‹_› ‹_› | exact AHeap.n5 ‹_› | exact AHeap.n6 ‹_› | exact AHeap.n7 ‹_› ‹_› | exact AHeap.n8 ‹_› ‹_›)); first | done | fail) rfl ?_ | refine S.addI rfl rfl (by omega) ?_ | refine S.addU rfl rfl ?_ | refine S.addUc rfl (by decide) ?_ | refine S.arith rfl rfl rfl ?_ | refine R.pickT rfl rfl ?_ | refine R.pickF rfl rfl ?_ | refine R.len rfl ?_ | refine R.lenA rfl ?_ | refine R.lenStr rfl ?_ | refine S.convIU rfl (by omega) ?_ | refine S.convUI rfl (by omega) ?_ | refine R.convInt rfl ?_ | refine R.eqPtrNil rfl rfl ?_ | ((first | refine S.lss rfl rfl ?_ ?_ | refine S.gtr rfl rfl ?_ ?_ | refine S.geq rfl rfl ?_ ?_ | refine S.eqInt rfl rfl ?_ ?_) <;> intro hlt <;> try (exfalso; omega))) | (refine S.op0 rfl ?_; first | refine S.storeS rfl rfl rfl (by rfl) rfl (by first | decide | exact Nat.le_refl _ | exact Nat.le_of_ble_eq_true rfl) ?_ | refine S.store rfl rfl (by (repeat' (first | assumption | exact AHeap.set_same _ _ _ | refine AHeap.get_fresh ‹_› ?_ | refine AHeap.so ?_ ?_ | exact AHeap.n1 ‹_› | exact AHeap.n2 ‹_› | exact AHeap.ne_of ‹_› ‹_› | exact AHeap.n4 ‹_› ‹_› | exact AHeap.n5 ‹_› | exact AHeap.n6 ‹_› | exact AHeap.n7 ‹_› ‹_› | exact AHeap.n8 ‹_› ‹_›)); first | done | fail) rfl rfl rfl (by rfl) rfl ?_) | refine S.skip rfl ?_ | refine S.skip0 rfl ?_ | refine S.seq ?_ | refine S.region ?_ | refine S.condT rfl ?_ | refine S.condF rfl ?_ | refine RRun.skip ?_ | refine RRun.block ?_ | refine RRun.inBlock ?_ | refine RRun.exit rfl ?_)
  all_goals
    rw [show ((i : Int) + 1) = ((i + 1 : Nat) : Int) by omega]
    exact S.keep [6, 5, 0, 1] rfl hk

theorem qnumber_loop (s : Option (List UInt8)) (hl : (dat s).length ≤ 140737488355328) (most : UInt64) (p : Nat) (h : AHeap) (hp : h p = some (.box (qdr s))) (k : List RT) (Q : AV → AHeap → Prop) (R0 : Option (Nat × Nat))
    (hr : ∀ v n : Nat, R0 = some (v, n) → v ≤ most.toNat → n ≤ (dat s).length → Q (un v) (h.set p (.box (over (qdr s) (0 + 0) [.sl 1 ((Go.Av.byteCells (dat s)).drop n) .ro]))))
    (hn : (∀ v n, R0 = some (v, n) → most.toNat < v) → RRun Try.prog Try.f76 62 k (Env.get [(0, ptr p)]) h Q) (m : Nat) :
    ∀ (i n : Nat), i + m = (dat s).length → n < 18446744073709551616 → i ≤ 10 → numA i n ((dat s).drop i) = R0 →
      RRun Try.prog Try.f76 62 (.inLoop r76l0 :: .inBlock 0 :: k) (Env.get [(6, i64 i), (5, un n), (0, ptr p), (1, u64 most)]) h Q := by
  have hlen0 := len_bytes (dat s)
  induction m with
  | zero =>
    intro i n hi hnn hi10 hR
    rw [List.drop_of_length_le (by omega)] at hR
    refine RRun.inLoop ?_
    repeat' (first | refine S.nilK ?_ | (refine S.op rfl ?_; first | refine R.mv rfl ?_ | refine R.fieldAddr rfl ?_ | refine R.fieldAddrR rfl ?_ | refine R.nilCheck rfl ?_ | refine R.nilCheckR rfl ?_ | refine R.loadR rfl rfl ?_ | refine R.load (by decide) rfl (by (repeat' (first | assumption | exact AHeap.set_same _ _ _ | refine AHeap.get_fresh ‹_› ?_ | refine AHeap.so ?_ ?_ | exact AHeap.n1 ‹_› | exact AHeap.n2 ‹_› | exact AHeap.ne_of ‹_› ‹_› | exact AHeap.n4 ‹_› ‹_› | exact AHeap.n5 ‹_› | exact AHeap.n6 ‹_› | exact AHeap.n7 ‹_› ‹_› | exact AHeap.n8 ‹_› ‹_›)); first | done | fail) rfl ?_ | refine S.addI rfl rfl (by omega) ?_ | refine S.addU rfl rfl ?_ | refine S.addUc rfl (by decide) ?_ | refine S.arith rfl rfl rfl ?_ | refine R.pickT rfl rfl ?_ | refine R.pickF rfl rfl ?_ | refine R.len rfl ?_ | refine R.lenA rfl ?_ | refine R.lenStr rfl ?_ | refine S.convIU rfl (by omega) ?_ | refine S.convUI rfl (by omega) ?_ | refine R.convInt rfl ?_ | refine R.eqPtrNil rfl rfl ?_ | ((first | refine S.lss rfl rfl ?_ ?_ | refine S.gtr rfl rfl ?_ ?_ | refine S.geq rfl rfl ?_ ?_ | refine S.eqInt rfl rfl ?_ ?_) <;> intro hlt <;> try (exfalso; omega))) | (refine S.op0 rfl ?_; first | refine S.storeS rfl rfl rfl (by rfl) rfl (by first | decide | exact Nat.le_refl _ | exact Nat.le_of_ble_eq_true rfl) ?_ | refine S.store rfl rfl (by (repeat' (first | assumption | exact AHeap.set_same _ _ _ | refine AHeap.get_fresh ‹_› ?_ | refine AHeap.so ?_ ?_ | exact AHeap.n1 ‹_› | exact AHeap.n2 ‹_› | exact AHeap.ne_of ‹_› ‹_› | exact AHeap.n4 ‹_› ‹_› | exact AHeap.n5 ‹_› | exact AHeap.n6 ‹_› | exact AHeap.n7 ‹_› ‹_› | exact AHeap.n8 ‹_› ‹_›)); first | done | fail) rfl rfl rfl (by rfl) rfl ?_) | refine S.skip rfl ?_ | refine S.skip0 rfl ?_ | refine S.seq ?_ | refine S.region ?_ | refine S.condT rfl ?_ | refine S.condF rfl ?_ | refine RRun.skip ?_ | refine RRun.block ?_ | refine RRun.inBlock ?_ | refine RRun.exit rfl ?_)
    all_goals exact S.keep [0] rfl (hn (by rw [← hR]; intro v n e; cases e))
  | succ m ih =>
    intro i n hi hnn hi10 hR
    have hie : i < (dat s).length := by omega
    have h1 : (Go.Av.byteCells (dat s))[((i : Nat) : Int).toNat]? = some (Go.Av.byteCell (dat s)[i]) := by simp [Go.Av.byteCells, hie]
    rw [List.drop_eq_getElem_cons hie] at hR
    generalize (dat s)[i] = c at h1 hR
    have hc : c.toNat < 256 := UInt8.toNat_lt c
    have ih' := ih (i + 1) (n * 128 + c.toNat % 128) (by omega)
    clear ih
    simp only [numA] at hR
    refine RRun.inLoop ?_
    by_cases hx : i = 10 ∨ (i = 0 ∧ c.toNat = 128) ∨ 144115188075855872 ≤ n
    · rw [if_pos hx] at hR
      exact qstep_bad s hl most p h hp k Q i n hie c hc h1 hi10 hx (hn (by rw [← hR]; intro v n e; cases e))
    · rw [if_neg hx] at hR
      by_cases hc8 : c.toNat < 128
      · rw [if_pos hc8] at hR
        by_cases hm : most.toNat < n * 128 + c.toNat % 128
        · exact qstep_big s hl most p h hp k Q i n hie c hc h1 hi10 hx hc8 hm (hn (by rw [← hR]; intro v n e; cases e; exact hm))
        · exact qstep_end s hl most p h hp k Q i n hie c hc h1 hi10 hx hc8 hm (hr _ _ hR.symm (by omega) (by omega))
      · rw [if_neg hc8] at hR
        exact qstep_more s hl most p h hp k Q i n hie c hc h1 hi10 hx hc8 (ih' (by omega) (by omega) hR)

theorem qN_spec (s : Option (List UInt8)) (hs : (dat s).length ≤ 140737488355328) (most : UInt64) (p : Nat) (h : AHeap) (hp : h p = some (.box (qdr s))) :
    ACalls Try.prog 76 [ptr p, u64 most] h (fun x h' => x = u64 (rdN s most).1 ∧ h' = h.set p (.box (qdr (rdN s most).2))) := by
  have c94 := qfail_spec s p h hp
  obtain ⟨c, hc1, hc2⟩ := res76
  refine ACalls.weak (ACalls.enter Try.func76 hc1 Try.ntmps76 hc2 (Nat.le_of_ble_eq_true rfl) rfl ?_)
  repeat' (first | refine S.nilK ?_ | (refine S.op rfl ?_; first | refine R.mv rfl ?_ | refine R.fieldAddr rfl ?_ | refine R.fieldAddrR rfl ?_ | refine R.nilCheck rfl ?_ | refine R.nilCheckR rfl ?_ | refine R.loadR rfl rfl ?_ | refine R.load (by decide) rfl (by (repeat' (first | assumption | exact AHeap.set_same _ _ _ | refine AHeap.get_fresh ‹_› ?_ | refine AHeap.so ?_ ?_ | exact AHeap.n1 ‹_› | exact AHeap.n2 ‹_› | exact AHeap.ne_of ‹_› ‹_› | exact AHeap.n4 ‹_› ‹_› | exact AHeap.n5 ‹_› | exact AHeap.n6 ‹_› | exact AHeap.n7 ‹_› ‹_› | exact AHeap.n8 ‹_› ‹_›)); first | done | fail) rfl ?_ | refine S.addI rfl rfl (by omega) ?_ | refine S.addU rfl rfl ?_ | refine S.addUc rfl (by decide) ?_ | refine S.arith rfl rfl rfl ?_ | refine R.pickT rfl rfl ?_ | refine R.pickF rfl rfl ?_ | refine R.len rfl ?_ | refine R.lenA rfl ?_ | refine R.lenStr rfl ?_ | refine S.convIU rfl (by omega) ?_ | refine S.convUI rfl (by omega) ?_ | refine R.convInt rfl ?_ | refine R.eqPtrNil rfl rfl ?_ | ((first | refine S.lss rfl rfl ?_ ?_ | refine S.gtr rfl rfl ?_ ?_ | refine S.geq rfl rfl ?_ ?_ | refine S.eqInt rfl rfl ?_ ?_) <;> intro hlt <;> try (exfalso; omega))) | (refine S.op0 rfl ?_; first | refine S.storeS rfl rfl rfl (by rfl) rfl (by first | decide | exact Nat.le_refl _ | exact Nat.le_of_ble_eq_true rfl) ?_ | refine S.store rfl rfl (by (repeat' (first | assumption | exact AHeap.set_same _ _ _ | refine AHeap.get_fresh ‹_› ?_ | refine AHeap.so ?_ ?_ | exact AHeap.n1 ‹_› | exact AHeap.n2 ‹_› | exact AHeap.ne_of ‹_› ‹_› | exact AHeap.n4 ‹_› ‹_› | exact AHeap.n5 ‹_› | exact AHeap.n6 ‹_› | exact AHeap.n7 ‹_› ‹_› | exact AHeap.n8 ‹_› ‹_›)); first | done | fail) rfl rfl rfl (by rfl) rfl ?_) | refine S.skip rfl ?_ | refine S.skip0 rfl ?_ | refine S.seq ?_ | refine S.region ?_ | refine S.condT rfl ?_ | refine S.condF rfl ?_ | refine RRun.skip ?_ | refine RRun.block ?_ | refine RRun.inBlock ?_ | refine RRun.exit rfl ?_)
  refine RRun.loopIn (S.keep [6, 5, 0, 1] rfl (qnumber_loop s hs most p h hp _ _ (numA 0 0 (dat s)) ?_ ?_ (dat s).length 0 0 (by omega) (by decide) (by decide) rfl))
  · intro v n hv hm hl
    obtain ⟨g1, g2, g3⟩ := numA_lt _ 0 0 v n hv
    match s, hv with
    | none, hv => cases hv
    | some b, hv =>
      have e2 : rdN (some b) most = (UInt64.ofNat v, some (b.drop n)) := by
        simp only [rdN, show numA 0 0 b = some (v, n) from hv]; rw [if_neg (by omega)]
      rw [e2]
      refine ⟨_, _, .refl _, box_le (.box ?_), (un_u64 g1), rfl⟩
      refine .cons ?_ (.refl _)
      show ALe (.sl 1 ((Go.Av.byteCells b).drop n) .ro) (bys (b.drop n))
      rw [bys_drop]
      exact .refl _
  · intro hv
    have e2 : rdN s most = (0, none) := by
      match s, hv with
      | none, hv => rfl
      | some b, hv =>
        cases hn : numA 0 0 b with
        | none => simp only [rdN, hn]
        | some vn =>
          obtain ⟨v, n⟩ := vn
          simp only [rdN, hn]
          rw [if_pos (hv v n hn)]
    rw [e2]
    repeat' (first | refine S.nilK ?_ | (refine S.op rfl ?_; first | refine callU rfl rfl c94 (fun _ => ?_) | refine R.mv rfl ?_ | refine R.fieldAddr rfl ?_ | refine R.fieldAddrR rfl ?_ | refine R.nilCheck rfl ?_ | refine R.nilCheckR rfl ?_ | refine R.loadR rfl rfl ?_ | refine R.load (by decide) rfl (by (repeat' (first | assumption | exact AHeap.set_same _ _ _ | refine AHeap.get_fresh ‹_› ?_ | refine AHeap.so ?_ ?_ | exact AHeap.n1 ‹_› | exact AHeap.n2 ‹_› | exact AHeap.ne_of ‹_› ‹_› | exact AHeap.n4 ‹_› ‹_› | exact AHeap.n5 ‹_› | exact AHeap.n6 ‹_› | exact AHeap.n7 ‹_› ‹_› | exact AHeap.n8 ‹_› ‹_›)); first | done | fail) rfl ?_ | refine S.addI rfl rfl (by omega) ?_ | refine S.addU rfl rfl ?_ | refine S.addUc rfl (by decide) ?_ | refine S.arith rfl rfl rfl ?_ | refine R.pickT rfl rfl ?_ | refine R.pickF rfl rfl ?_ | refine R.len rfl ?_ | refine R.lenA rfl ?_ | refine R.lenStr rfl ?_ | refine S.convIU rfl (by omega) ?_ | refine S.convUI rfl (by omega) ?_ | refine R.convInt rfl ?_ | refine R.eqPtrNil rfl rfl ?_ | ((first | refine S.lss rfl rfl ?_ ?_ | refine S.gtr rfl rfl ?_ ?_ | refine S.geq rfl rfl ?_ ?_ | refine S.eqInt rfl rfl ?_ ?_) <;> intro hlt <;> try (exfalso; omega))) | (refine S.op0 rfl ?_; first | refine S.storeS rfl rfl rfl (by rfl) rfl (by first | decide | exact Nat.le_refl _ | exact Nat.le_of_ble_eq_true rfl) ?_ | refine S.store rfl rfl (by (repeat' (first | assumption | exact AHeap.set_same _ _ _ | refine AHeap.get_fresh ‹_› ?_ | refine AHeap.so ?_ ?_ | exact AHeap.n1 ‹_› | exact AHeap.n2 ‹_› | exact AHeap.ne_of ‹_› ‹_› | exact AHeap.n4 ‹_› ‹_› | exact AHeap.n5 ‹_› | exact AHeap.n6 ‹_› | exact AHeap.n7 ‹_› ‹_› | exact AHeap.n8 ‹_› ‹_›)); first | done | fail) rfl rfl rfl (by rfl) rfl ?_) | refine S.skip rfl ?_ | refine S.skip0 rfl ?_ | refine S.seq ?_ | refine S.region ?_ | refine S.condT rfl ?_ | refine S.condF rfl ?_ | refine RRun.skip ?_ | refine RRun.block ?_ | refine RRun.inBlock ?_ | refine RRun.exit rfl ?_)
    apply S.ret rr76
    case hx => repeat (first | exact ResAt.nil | apply ResAt.tmp rfl | apply ResAt.cellA rfl (by (repeat' (first | assumption | exact AHeap.set_same _ _ _ | refine AHeap.get_fresh ‹_› ?_ | refine AHeap.so ?_ ?_ | exact AHeap.n1 ‹_› | exact AHeap.n2 ‹_› | exact AHeap.ne_of ‹_› ‹_› | exact AHeap.n4 ‹_› ‹_› | exact AHeap.n5 ‹_› | exact AHeap.n6 ‹_› | exact AHeap.n7 ‹_› ‹_› | exact AHeap.n8 ‹_› ‹_›)); first | done | fail) (by rfl) | apply ResAt.cell1 rfl (by (repeat' (first | assumption | exact AHeap.set_same _ _ _ | refine AHeap.get_fresh ‹_› ?_ | refine AHeap.so ?_ ?_ | exact AHeap.n1 ‹_› | exact AHeap.n2 ‹_› | exact AHeap.ne_of ‹_› ‹_› | exact AHeap.n4 ‹_› ‹_› | exact AHeap.n5 ‹_› | exact AHeap.n6 ‹_› | exact AHeap.n7 ‹_› ‹_› | exact AHeap.n8 ‹_› ‹_›)); first | done | fail) (by rfl))
    exact ⟨_, _, .refl _, .refl _, rfl, rfl⟩

end Go.Proofs.Ytnmgamcmjjngcaa
