import Derived.Test.YtcghjnkepooofaaGreatAvY
import Derived.Test.YtcghjnkepooofaaGreatAvP
import Derived.Test.YtcghjnkepooofaaGreatRows
set_option linter.unusedVariables false
namespace Go.Proofs.YtcghjnkepooofaaGreat
open Go.Av

def r4l0 : RCode :=
  (.seq (.seq (.region [
    ⟨(some 12), none, .act, .mv (.tmp 2)⟩,
    ⟨(some 13), none, .act, .bin .lss (.tmp 12) (.const (.int .u64 10))⟩])
  (.cond (.tmp 13)
   .skip
   (.exit 0)))
  (.seq (.block 1
   (.region [
     ⟨(some 16), none, .act, .mv (.tmp 1)⟩,
     ⟨(some 17), none, .act, .mv (.tmp 2)⟩,
     ⟨(some 18), none, .act, .call 6 [(.tmp 16), (.tmp 17)]⟩]))
  (.region [
    ⟨(some 14), none, .act, .mv (.tmp 2)⟩,
    ⟨(some 15), none, .act, .bin .add (.tmp 14) (.const (.int .u64 1))⟩,
    ⟨(some 2), none, .act, .mv (.tmp 15)⟩])))
/-- plenum/plenumlaw09.awake -/
def r4 : RCode :=
  (.seq (.region [
    ⟨(some 0), none, .act, .mv (.const (.bool false))⟩])
  (.seq (.region [
    ⟨(some 7), none, .act, .build [(.int .u64 0), (.int .u64 0)] []⟩,
    ⟨(some 8), none, .act, .buildSl 1 [(.int .u64 0)] 1 [(0, (.const (.int .u64 1)))]⟩,
    ⟨(some 9), none, .act, .build [(.int .u64 0), (.int .u64 0), (.slice none 0 0), (.slice none 0 0)] [(2, 1, (.tmp 8))]⟩,
    ⟨(some 10), none, .act, .call 17 [(.tmp 9)]⟩,
    ⟨(some 11), none, .act, .call 16 [(.const (.int .u64 1)), (.tmp 7), (.tmp 10)]⟩,
    ⟨(some 1), none, .act, .mv (.tmp 11)⟩])
  (.seq (.seq (.region [
    ⟨(some 2), none, .act, .mv (.const (.int .u64 0))⟩])
  (.block 0
   (.loop r4l0)))
  (.seq (.region [
    ⟨(some 20), none, .act, .mv (.tmp 1)⟩,
    ⟨(some 21), none, .act, .call 11 [(.tmp 20)]⟩,
    ⟨(some 19), none, .act, .mv (.tmp 21)⟩,
    ⟨(some 22), none, .act, .extract (.tmp 19) 0⟩,
    ⟨(some 23), none, .act, .extract (.tmp 19) 1⟩,
    ⟨(some 24), none, .act, .extract (.tmp 19) 2⟩,
    ⟨(some 25), none, .act, .extract (.tmp 19) 3⟩,
    ⟨(some 3), none, .act, .mv (.tmp 22)⟩,
    ⟨(some 4), none, .act, .mv (.tmp 23)⟩,
    ⟨(some 5), none, .act, .mv (.tmp 24)⟩,
    ⟨(some 6), none, .act, .mv (.tmp 25)⟩])
  (.seq (.region [
    ⟨(some 26), none, .act, .mv (.tmp 3)⟩,
    ⟨(some 27), none, .act, .eq false .int (.tmp 26) (.const (.int .i64 2))⟩,
    ⟨(some 28), none, .act, .mv (.tmp 27)⟩,
    ⟨(some 29), (some (28, true)), .act, .mv (.tmp 4)⟩,
    ⟨(some 30), (some (28, true)), .act, .eq false .int (.tmp 29) (.const (.int .u64 1))⟩,
    ⟨(some 31), none, .act, .pick (.tmp 28) (.tmp 30) (.const (.bool false))⟩,
    ⟨(some 32), none, .act, .mv (.tmp 31)⟩,
    ⟨(some 33), (some (32, true)), .act, .mv (.tmp 5)⟩,
    ⟨(some 34), (some (32, true)), .act, .eq false .int (.tmp 33) (.const (.int .u64 1))⟩,
    ⟨(some 35), none, .act, .pick (.tmp 32) (.tmp 34) (.const (.bool false))⟩,
    ⟨(some 36), none, .act, .mv (.tmp 35)⟩,
    ⟨(some 37), (some (36, true)), .act, .mv (.tmp 6)⟩,
    ⟨(some 38), (some (36, true)), .act, .eq false .int (.tmp 37) (.const (.int .u64 1))⟩,
    ⟨(some 39), none, .act, .pick (.tmp 36) (.tmp 38) (.const (.bool false))⟩,
    ⟨(some 0), none, .act, .mv (.tmp 39)⟩])
  .ret)))))
theorem res4 : ∃ c, Tryz.f4.body = some c ∧ resCode Tryz.prog 40 c = some r4 := ⟨_, rfl, by kernel_rfl⟩
theorem rr4 : resRes Tryz.prog Tryz.f4.results.toList = some [.tmp 0] := by kernel_rfl
theorem fok4 : FOk Tryz.prog 4 ⟨r4, 40, [.tmp 0]⟩ := by
  obtain ⟨c, h1, h2⟩ := res4
  exact ⟨by kernel_rfl, _, c, Tryz.func4, h1, Tryz.ntmps4, h2, rr4⟩
/-- plenum/rlog.New -/
def r17 : RCode :=
  (.seq (.region [
    ⟨(some 1), none, .act, .box (.tmp 0)⟩,
    ⟨(some 2), none, .act, .mv (.const (.pointer none))⟩])
  (.seq (.region [
    ⟨(some 3), none, .act, .load true 4 (.tmp 1)⟩,
    ⟨(some 4), none, .act, .call 48 [(.tmp 3)]⟩,
    ⟨(some 5), none, .act, .build [(.int .u64 0), (.int .u64 0), (.slice none 0 0), (.slice none 0 0), (.slice none 0 0), (.int .u64 0), (.bool false)] [(0, 4, (.tmp 4))]⟩,
    ⟨(some 6), none, .act, .box (.tmp 5)⟩,
    ⟨(some 2), none, .act, .mv (.tmp 6)⟩])
  .ret))
theorem res17 : ∃ c, Tryz.f17.body = some c ∧ resCode Tryz.prog 7 c = some r17 := ⟨_, rfl, by kernel_rfl⟩
theorem rr17 : resRes Tryz.prog Tryz.f17.results.toList = some [.tmp 2] := by kernel_rfl
theorem fok17 : FOk Tryz.prog 17 ⟨r17, 7, [.tmp 2]⟩ := by
  obtain ⟨c, h1, h2⟩ := res17
  exact ⟨by kernel_rfl, _, c, Tryz.func17, h1, Tryz.ntmps17, h2, rr17⟩
/-- plenum/rlog.copied -/
def r48 : RCode :=
  (.seq (.region [
    ⟨(some 1), none, .act, .box (.tmp 0)⟩,
    ⟨(some 2), none, .act, .alloc [(.int .u64 0), (.int .u64 0), (.slice none 0 0), (.slice none 0 0)]⟩])
  (.seq (.region [
    ⟨(some 3), none, .act, .fieldAddr 0 (.tmp 1)⟩,
    ⟨(some 4), none, .act, .load false 1 (.tmp 3)⟩,
    ⟨(some 5), none, .act, .minmax false [(.tmp 4), (.const (.int .u64 4611686018427387904))]⟩,
    ⟨(some 6), none, .act, .fieldAddr 0 (.tmp 1)⟩,
    ⟨none, none, .act, .store 1 (.tmp 6) (.tmp 5)⟩])
  (.seq (.region [
    ⟨(some 7), none, .act, .load true 4 (.tmp 1)⟩,
    ⟨(some 8), none, .act, .call 68 [(.tmp 7)]⟩,
    ⟨none, none, .act, .store 4 (.tmp 2) (.tmp 8)⟩])
  .ret)))
theorem res48 : ∃ c, Tryz.f48.body = some c ∧ resCode Tryz.prog 9 c = some r48 := ⟨_, rfl, by kernel_rfl⟩
theorem rr48 : resRes Tryz.prog Tryz.f48.results.toList = some [.cell 2 true 4] := by kernel_rfl
theorem fok48 : FOk Tryz.prog 48 ⟨r48, 9, [.cell 2 true 4]⟩ := by
  obtain ⟨c, h1, h2⟩ := res48
  exact ⟨by kernel_rfl, _, c, Tryz.func48, h1, Tryz.ntmps48, h2, rr48⟩
/-- plenum/rlog.cloned -/
def r68 : RCode :=
  (.seq (.region [
    ⟨(some 1), none, .act, .box (.tmp 0)⟩,
    ⟨(some 2), none, .act, .alloc [(.int .u64 0), (.int .u64 0), (.slice none 0 0), (.slice none 0 0)]⟩])
  (.seq (.region [
    ⟨(some 3), none, .pure, .fieldAddr 2 (.tmp 1)⟩,
    ⟨(some 4), none, .read, .load false 1 (.tmp 3)⟩,
    ⟨(some 5), none, .read, .call 78 [(.tmp 4)]⟩,
    ⟨(some 6), none, .pure, .fieldAddr 3 (.tmp 1)⟩,
    ⟨(some 7), none, .read, .load false 1 (.tmp 6)⟩,
    ⟨(some 9), none, .pure, .fieldAddr 2 (.tmp 1)⟩,
    ⟨(some 8), none, .act, .call 33 [(.tmp 7)]⟩,
    ⟨none, none, .act, .store 1 (.tmp 9) (.tmp 5)⟩,
    ⟨(some 10), none, .pure, .fieldAddr 3 (.tmp 1)⟩,
    ⟨none, none, .act, .store 1 (.tmp 10) (.tmp 8)⟩])
  (.seq (.region [
    ⟨(some 11), none, .act, .load true 4 (.tmp 1)⟩,
    ⟨none, none, .act, .store 4 (.tmp 2) (.tmp 11)⟩])
  .ret)))
theorem res68 : ∃ c, Tryz.f68.body = some c ∧ resCode Tryz.prog 12 c = some r68 := ⟨_, rfl, by kernel_rfl⟩
theorem rr68 : resRes Tryz.prog Tryz.f68.results.toList = some [.cell 2 true 4] := by kernel_rfl
theorem fok68 : FOk Tryz.prog 68 ⟨r68, 12, [.cell 2 true 4]⟩ := by
  obtain ⟨c, h1, h2⟩ := res68
  exact ⟨by kernel_rfl, _, c, Tryz.func68, h1, Tryz.ntmps68, h2, rr68⟩
/-- slices.Clone[[]uint64,uint64] -/
def r78 : RCode :=
  (.seq (.region [
    ⟨(some 2), none, .act, .mv (.const (.slice none 0 0))⟩])
  (.seq (.seq (.region [
    ⟨(some 3), none, .act, .mv (.tmp 0)⟩,
    ⟨(some 4), none, .act, .eq false .slice (.tmp 3) (.const (.slice none 0 0))⟩])
  (.cond (.tmp 4)
   (.seq (.region [
     ⟨(some 2), none, .act, .mv (.const (.slice none 0 0))⟩])
   .ret)
   .skip))
  (.seq (.region [
    ⟨(some 5), none, .act, .buildSl 1 [(.int .u64 0)] 0 []⟩,
    ⟨(some 6), none, .act, .mv (.tmp 0)⟩,
    ⟨(some 7), none, .act, .append 1 8 [(.int .u64 0)] (.tmp 5) (.tmp 6)⟩,
    ⟨(some 2), none, .act, .mv (.tmp 7)⟩])
  .ret)))
theorem res78 : ∃ c, Tryz.f78.body = some c ∧ resCode Tryz.prog 8 c = some r78 := ⟨_, rfl, by kernel_rfl⟩
theorem rr78 : resRes Tryz.prog Tryz.f78.results.toList = some [.tmp 2] := by kernel_rfl
theorem fok78 : FOk Tryz.prog 78 ⟨r78, 8, [.tmp 2]⟩ := by
  obtain ⟨c, h1, h2⟩ := res78
  exact ⟨by kernel_rfl, _, c, Tryz.func78, h1, Tryz.ntmps78, h2, rr78⟩
/-- slices.Clone[[]byte,byte] -/
def r33 : RCode :=
  (.seq (.region [
    ⟨(some 2), none, .act, .mv (.const (.slice none 0 0))⟩])
  (.seq (.seq (.region [
    ⟨(some 3), none, .act, .mv (.tmp 0)⟩,
    ⟨(some 4), none, .act, .eq false .slice (.tmp 3) (.const (.slice none 0 0))⟩])
  (.cond (.tmp 4)
   (.seq (.region [
     ⟨(some 2), none, .act, .mv (.const (.slice none 0 0))⟩])
   .ret)
   .skip))
  (.seq (.region [
    ⟨(some 5), none, .act, .buildSl 1 [(.int .u8 0)] 0 []⟩,
    ⟨(some 6), none, .act, .mv (.tmp 0)⟩,
    ⟨(some 7), none, .act, .append 1 1 [(.int .u8 0)] (.tmp 5) (.tmp 6)⟩,
    ⟨(some 2), none, .act, .mv (.tmp 7)⟩])
  .ret)))
theorem res33 : ∃ c, Tryz.f33.body = some c ∧ resCode Tryz.prog 8 c = some r33 := ⟨_, rfl, by kernel_rfl⟩
theorem rr33 : resRes Tryz.prog Tryz.f33.results.toList = some [.tmp 2] := by kernel_rfl
theorem fok33 : FOk Tryz.prog 33 ⟨r33, 8, [.tmp 2]⟩ := by
  obtain ⟨c, h1, h2⟩ := res33
  exact ⟨by kernel_rfl, _, c, Tryz.func33, h1, Tryz.ntmps33, h2, rr33⟩
/-- plenum/raft.New -/
def r16 : RCode :=
  (.seq (.region [
    ⟨(some 4), none, .act, .box (.tmp 1)⟩,
    ⟨(some 6), none, .act, .mv (.const (.pointer none))⟩])
  (.seq (.seq (.region [
    ⟨(some 8), none, .act, .mv (.tmp 2)⟩,
    ⟨(some 9), none, .act, .eq false .ptr (.tmp 8) (.const (.pointer none))⟩])
  (.cond (.tmp 9)
   (.region [
     ⟨(some 10), none, .act, .build [(.int .u64 0), (.int .u64 0), (.slice none 0 0), (.slice none 0 0)] []⟩,
     ⟨(some 11), none, .act, .call 17 [(.tmp 10)]⟩,
     ⟨(some 2), none, .act, .mv (.tmp 11)⟩])
   .skip))
  (.seq (.region [
    ⟨(some 12), none, .act, .mv (.tmp 2)⟩,
    ⟨(some 13), none, .act, .call 39 [(.tmp 12)]⟩,
    ⟨(some 14), none, .act, .field false 0 1 (.tmp 13)⟩,
    ⟨(some 7), none, .act, .mv (.tmp 14)⟩])
  (.seq (.region [
    ⟨(some 15), none, .act, .mv (.tmp 0)⟩,
    ⟨(some 16), none, .act, .load true 2 (.tmp 4)⟩,
    ⟨(some 17), none, .act, .load true 2 (.tmp 4)⟩,
    ⟨(some 18), none, .act, .mv (.tmp 2)⟩,
    ⟨(some 19), none, .act, .mv (.tmp 7)⟩,
    ⟨(some 20), none, .act, .mv (.tmp 7)⟩,
    ⟨(some 21), none, .act, .build [(.int .u64 0), (.int .u64 0), (.int .u64 0), (.int .u64 0), (.int .u64 0), (.pointer none), (.int .i64 0), (.int .u64 0), (.int .u64 0), (.int .u64 0), (.int .u64 0), (.map none), (.map none), (.slice none 0 0), (.bool false)] [(0, 1, (.tmp 15)), (1, 2, (.tmp 16)), (3, 2, (.tmp 17)), (5, 1, (.tmp 18)), (8, 1, (.tmp 19)), (9, 1, (.tmp 20)), (10, 1, (.const (.int .u64 10)))]⟩,
    ⟨(some 22), none, .act, .box (.tmp 21)⟩,
    ⟨(some 6), none, .act, .mv (.tmp 22)⟩])
  .ret))))
theorem res16 : ∃ c, Tryz.f16.body = some c ∧ resCode Tryz.prog 23 c = some r16 := ⟨_, rfl, by kernel_rfl⟩
theorem rr16 : resRes Tryz.prog Tryz.f16.results.toList = some [.tmp 6] := by kernel_rfl
theorem fok16 : FOk Tryz.prog 16 ⟨r16, 23, [.tmp 6]⟩ := by
  obtain ⟨c, h1, h2⟩ := res16
  exact ⟨by kernel_rfl, _, c, Tryz.func16, h1, Tryz.ntmps16, h2, rr16⟩
/-- (*plenum/rlog.Log).Snap -/
def r39 : RCode :=
  (.seq (.region [
    ⟨(some 2), none, .act, .alloc [(.int .u64 0), (.int .u64 0), (.slice none 0 0), (.slice none 0 0)]⟩])
  (.seq (.seq (.region [
    ⟨(some 3), none, .act, .mv (.tmp 0)⟩,
    ⟨(some 4), none, .act, .eq false .ptr (.tmp 3) (.const (.pointer none))⟩])
  (.cond (.tmp 4)
   (.seq (.region [
     ⟨(some 5), none, .act, .build [(.int .u64 0), (.int .u64 0), (.slice none 0 0), (.slice none 0 0)] []⟩,
     ⟨none, none, .act, .store 4 (.tmp 2) (.tmp 5)⟩])
   .ret)
   .skip))
  (.seq (.region [
    ⟨(some 6), none, .act, .mv (.tmp 0)⟩,
    ⟨(some 7), none, .act, .nilCheck (.tmp 6)⟩,
    ⟨(some 8), none, .act, .fieldAddr 0 (.tmp 7)⟩,
    ⟨(some 9), none, .act, .load true 4 (.tmp 8)⟩,
    ⟨(some 10), none, .act, .call 68 [(.tmp 9)]⟩,
    ⟨none, none, .act, .store 4 (.tmp 2) (.tmp 10)⟩])
  .ret)))
theorem res39 : ∃ c, Tryz.f39.body = some c ∧ resCode Tryz.prog 11 c = some r39 := ⟨_, rfl, by kernel_rfl⟩
theorem rr39 : resRes Tryz.prog Tryz.f39.results.toList = some [.cell 2 true 4] := by kernel_rfl
theorem fok39 : FOk Tryz.prog 39 ⟨r39, 11, [.cell 2 true 4]⟩ := by
  obtain ⟨c, h1, h2⟩ := res39
  exact ⟨by kernel_rfl, _, c, Tryz.func39, h1, Tryz.ntmps39, h2, rr39⟩
/-- (*plenum/raft.Node).Tick -/
def r6 : RCode :=
  (.seq (.seq (.region [
    ⟨(some 4), none, .act, .mv (.tmp 0)⟩,
    ⟨(some 5), none, .act, .call 20 [(.tmp 4)]⟩,
    ⟨(some 6), none, .act, .un .not (.tmp 5)⟩])
  (.cond (.tmp 6)
   .ret
   .skip))
  (.seq (.seq (.region [
    ⟨(some 7), none, .act, .mv (.tmp 0)⟩,
    ⟨(some 8), none, .act, .nilCheck (.tmp 7)⟩,
    ⟨(some 9), none, .act, .fieldAddr 6 (.tmp 8)⟩,
    ⟨(some 10), none, .act, .load false 1 (.tmp 9)⟩,
    ⟨(some 11), none, .act, .eq false .int (.tmp 10) (.const (.int .i64 2))⟩])
  (.cond (.tmp 11)
   (.seq (.region [
     ⟨(some 12), none, .act, .mv (.tmp 0)⟩,
     ⟨(some 13), none, .act, .call 21 [(.tmp 12)]⟩])
   .ret)
   .skip))
  (.seq (.seq (.region [
    ⟨(some 14), none, .act, .mv (.tmp 0)⟩,
    ⟨(some 15), none, .act, .nilCheck (.tmp 14)⟩,
    ⟨(some 16), none, .act, .fieldAddr 10 (.tmp 15)⟩,
    ⟨(some 17), none, .act, .load false 1 (.tmp 16)⟩,
    ⟨(some 18), none, .act, .bin .sub (.tmp 17) (.const (.int .u64 1))⟩,
    ⟨(some 19), none, .act, .nilCheck (.tmp 14)⟩,
    ⟨(some 20), none, .act, .fieldAddr 10 (.tmp 19)⟩,
    ⟨none, none, .act, .store 1 (.tmp 20) (.tmp 18)⟩])
  (.seq (.region [
    ⟨(some 21), none, .act, .mv (.tmp 0)⟩,
    ⟨(some 22), none, .act, .nilCheck (.tmp 21)⟩,
    ⟨(some 23), none, .act, .fieldAddr 10 (.tmp 22)⟩,
    ⟨(some 24), none, .act, .load false 1 (.tmp 23)⟩,
    ⟨(some 25), none, .act, .bin .gtr (.tmp 24) (.const (.int .u64 0))⟩])
  (.cond (.tmp 25)
   .ret
   .skip)))
  (.seq (.region [
    ⟨(some 26), none, .act, .mv (.tmp 0)⟩,
    ⟨(some 27), none, .act, .mv (.tmp 1)⟩,
    ⟨(some 28), none, .act, .bin .rem (.tmp 27) (.const (.int .u64 8))⟩,
    ⟨(some 29), none, .act, .bin .add (.const (.int .u64 5)) (.tmp 28)⟩,
    ⟨(some 30), none, .act, .nilCheck (.tmp 26)⟩,
    ⟨(some 31), none, .act, .fieldAddr 10 (.tmp 30)⟩,
    ⟨none, none, .act, .store 1 (.tmp 31) (.tmp 29)⟩])
  (.seq (.region [
    ⟨(some 32), none, .act, .mv (.tmp 0)⟩,
    ⟨(some 33), none, .act, .mv (.tmp 0)⟩,
    ⟨(some 34), none, .act, .nilCheck (.tmp 33)⟩,
    ⟨(some 35), none, .act, .fieldAddr 0 (.tmp 34)⟩,
    ⟨(some 36), none, .act, .load false 1 (.tmp 35)⟩,
    ⟨(some 37), none, .act, .call 22 [(.tmp 32), (.tmp 36)]⟩])
  (.cond (.tmp 37)
   (.region [
     ⟨(some 38), none, .act, .mv (.tmp 0)⟩,
     ⟨(some 39), none, .act, .call 23 [(.tmp 38)]⟩])
   .skip))))))
theorem res6 : ∃ c, Tryz.f6.body = some c ∧ resCode Tryz.prog 40 c = some r6 := ⟨_, rfl, by kernel_rfl⟩
theorem rr6 : resRes Tryz.prog Tryz.f6.results.toList = some [] := by kernel_rfl
theorem fok6 : FOk Tryz.prog 6 ⟨r6, 40, []⟩ := by
  obtain ⟨c, h1, h2⟩ := res6
  exact ⟨by kernel_rfl, _, c, Tryz.func6, h1, Tryz.ntmps6, h2, rr6⟩
/-- (*plenum/raft.Node).ok -/
def r20 : RCode :=
  (.seq (.region [
    ⟨(some 2), none, .act, .mv (.const (.bool false))⟩])
  (.seq (.region [
    ⟨(some 3), none, .act, .mv (.tmp 0)⟩,
    ⟨(some 4), none, .act, .eq true .ptr (.tmp 3) (.const (.pointer none))⟩,
    ⟨(some 5), none, .act, .mv (.tmp 4)⟩,
    ⟨(some 6), (some (5, true)), .act, .mv (.tmp 0)⟩,
    ⟨(some 7), (some (5, true)), .act, .nilCheck (.tmp 6)⟩,
    ⟨(some 8), (some (5, true)), .act, .fieldAddr 5 (.tmp 7)⟩,
    ⟨(some 9), (some (5, true)), .act, .load false 1 (.tmp 8)⟩,
    ⟨(some 10), (some (5, true)), .act, .eq true .ptr (.tmp 9) (.const (.pointer none))⟩,
    ⟨(some 11), none, .act, .pick (.tmp 5) (.tmp 10) (.const (.bool false))⟩,
    ⟨(some 2), none, .act, .mv (.tmp 11)⟩])
  .ret))
theorem res20 : ∃ c, Tryz.f20.body = some c ∧ resCode Tryz.prog 12 c = some r20 := ⟨_, rfl, by kernel_rfl⟩
theorem rr20 : resRes Tryz.prog Tryz.f20.results.toList = some [.tmp 2] := by kernel_rfl
theorem fok20 : FOk Tryz.prog 20 ⟨r20, 12, [.tmp 2]⟩ := by
  obtain ⟨c, h1, h2⟩ := res20
  exact ⟨by kernel_rfl, _, c, Tryz.func20, h1, Tryz.ntmps20, h2, rr20⟩
/-- (*plenum/raft.Node).member -/
def r22 : RCode :=
  (.seq (.region [
    ⟨(some 4), none, .act, .mv (.const (.bool false))⟩])
  (.seq (.region [
    ⟨(some 5), none, .act, .mv (.tmp 0)⟩,
    ⟨(some 6), none, .act, .call 49 [(.tmp 5)]⟩,
    ⟨(some 7), none, .act, .mv (.tmp 1)⟩,
    ⟨(some 8), none, .act, .call 51 [(.tmp 6), (.tmp 7)]⟩,
    ⟨(some 4), none, .act, .mv (.tmp 8)⟩])
  .ret))
theorem res22 : ∃ c, Tryz.f22.body = some c ∧ resCode Tryz.prog 9 c = some r22 := ⟨_, rfl, by kernel_rfl⟩
theorem rr22 : resRes Tryz.prog Tryz.f22.results.toList = some [.tmp 4] := by kernel_rfl
theorem fok22 : FOk Tryz.prog 22 ⟨r22, 9, [.tmp 4]⟩ := by
  obtain ⟨c, h1, h2⟩ := res22
  exact ⟨by kernel_rfl, _, c, Tryz.func22, h1, Tryz.ntmps22, h2, rr22⟩
/-- (*plenum/raft.Node).members -/
def r49 : RCode :=
  (.seq (.region [
    ⟨(some 2), none, .act, .mv (.const (.slice none 0 0))⟩])
  (.seq (.region [
    ⟨(some 6), none, .act, .mv (.tmp 0)⟩,
    ⟨(some 7), none, .act, .nilCheck (.tmp 6)⟩,
    ⟨(some 8), none, .act, .fieldAddr 5 (.tmp 7)⟩,
    ⟨(some 9), none, .act, .load false 1 (.tmp 8)⟩,
    ⟨(some 10), none, .act, .call 35 [(.tmp 9)]⟩,
    ⟨(some 5), none, .act, .mv (.tmp 10)⟩,
    ⟨(some 11), none, .act, .extract (.tmp 5) 0⟩,
    ⟨(some 12), none, .act, .extract (.tmp 5) 1⟩,
    ⟨(some 3), none, .act, .mv (.tmp 11)⟩,
    ⟨(some 4), none, .act, .mv (.tmp 12)⟩])
  (.seq (.region [
    ⟨(some 13), none, .act, .mv (.tmp 3)⟩,
    ⟨(some 2), none, .act, .mv (.tmp 13)⟩])
  .ret)))
theorem res49 : ∃ c, Tryz.f49.body = some c ∧ resCode Tryz.prog 14 c = some r49 := ⟨_, rfl, by kernel_rfl⟩
theorem rr49 : resRes Tryz.prog Tryz.f49.results.toList = some [.tmp 2] := by kernel_rfl
theorem fok49 : FOk Tryz.prog 49 ⟨r49, 14, [.tmp 2]⟩ := by
  obtain ⟨c, h1, h2⟩ := res49
  exact ⟨by kernel_rfl, _, c, Tryz.func49, h1, Tryz.ntmps49, h2, rr49⟩
/-- (*plenum/rlog.Log).Members -/
def r35 : RCode :=
  (.seq (.region [
    ⟨(some 2), none, .act, .mv (.const (.slice none 0 0))⟩,
    ⟨(some 3), none, .act, .mv (.const (.int .u64 0))⟩])
  (.seq (.seq (.region [
    ⟨(some 4), none, .act, .mv (.tmp 0)⟩,
    ⟨(some 5), none, .act, .eq false .ptr (.tmp 4) (.const (.pointer none))⟩])
  (.cond (.tmp 5)
   (.seq (.region [
     ⟨(some 2), none, .act, .mv (.const (.slice none 0 0))⟩,
     ⟨(some 3), none, .act, .mv (.const (.int .u64 0))⟩])
   .ret)
   .skip))
  (.seq (.region [
    ⟨(some 6), none, .act, .mv (.tmp 0)⟩,
    ⟨(some 7), none, .act, .mv (.tmp 0)⟩,
    ⟨(some 8), none, .act, .nilCheck (.tmp 7)⟩,
    ⟨(some 9), none, .act, .fieldAddr 4 (.tmp 8)⟩,
    ⟨(some 10), none, .act, .load false 1 (.tmp 9)⟩,
    ⟨(some 11), none, .act, .len (.tmp 10)⟩,
    ⟨(some 12), none, .act, .call 62 [(.tmp 6), (.tmp 11)]⟩,
    ⟨(some 13), none, .act, .extract (.tmp 12) 0⟩,
    ⟨(some 14), none, .act, .extract (.tmp 12) 1⟩,
    ⟨(some 2), none, .act, .mv (.tmp 13)⟩,
    ⟨(some 3), none, .act, .mv (.tmp 14)⟩])
  .ret)))
theorem res35 : ∃ c, Tryz.f35.body = some c ∧ resCode Tryz.prog 15 c = some r35 := ⟨_, rfl, by kernel_rfl⟩
theorem rr35 : resRes Tryz.prog Tryz.f35.results.toList = some [.tmp 2, .tmp 3] := by kernel_rfl
theorem fok35 : FOk Tryz.prog 35 ⟨r35, 15, [.tmp 2, .tmp 3]⟩ := by
  obtain ⟨c, h1, h2⟩ := res35
  exact ⟨by kernel_rfl, _, c, Tryz.func35, h1, Tryz.ntmps35, h2, rr35⟩
def r62l0 : RCode :=
  (.seq (.seq (.region [
    ⟨(some 11), none, .act, .mv (.tmp 6)⟩,
    ⟨(some 12), none, .act, .bin .geq (.tmp 11) (.const (.int .i64 0))⟩])
  (.cond (.tmp 12)
   .skip
   (.exit 0)))
  (.seq (.block 1
   (.seq (.seq (.region [
     ⟨(some 15), none, .act, .mv (.tmp 0)⟩,
     ⟨(some 16), none, .act, .nilCheck (.tmp 15)⟩,
     ⟨(some 17), none, .act, .fieldAddr 4 (.tmp 16)⟩,
     ⟨(some 18), none, .act, .load false 1 (.tmp 17)⟩,
     ⟨(some 19), none, .act, .mv (.tmp 6)⟩,
     ⟨(some 20), none, .act, .indexAddr 4 (.tmp 18) (.tmp 19)⟩,
     ⟨(some 21), none, .act, .fieldAddr 2 (.tmp 20)⟩,
     ⟨(some 22), none, .act, .load false 1 (.tmp 21)⟩,
     ⟨(some 23), none, .act, .eq true .int (.tmp 22) (.const (.int .i64 1))⟩])
   (.cond (.tmp 23)
    (.exit 1)
    .skip))
   (.seq (.region [
     ⟨(some 25), none, .act, .mv (.tmp 0)⟩,
     ⟨(some 26), none, .act, .nilCheck (.tmp 25)⟩,
     ⟨(some 27), none, .act, .fieldAddr 4 (.tmp 26)⟩,
     ⟨(some 28), none, .act, .load false 1 (.tmp 27)⟩,
     ⟨(some 29), none, .act, .mv (.tmp 6)⟩,
     ⟨(some 30), none, .act, .indexAddr 4 (.tmp 28) (.tmp 29)⟩,
     ⟨(some 31), none, .act, .fieldAddr 3 (.tmp 30)⟩,
     ⟨(some 32), none, .act, .load false 1 (.tmp 31)⟩,
     ⟨(some 33), none, .act, .call 77 [(.tmp 32)]⟩,
     ⟨(some 24), none, .act, .mv (.tmp 33)⟩,
     ⟨(some 34), none, .act, .extract (.tmp 24) 0⟩,
     ⟨(some 35), none, .act, .extract (.tmp 24) 1⟩,
     ⟨(some 7), none, .act, .mv (.tmp 34)⟩,
     ⟨(some 8), none, .act, .mv (.tmp 35)⟩])
   (.seq (.region [
     ⟨(some 36), none, .act, .mv (.tmp 8)⟩,
     ⟨(some 37), none, .act, .eq false .int (.tmp 36) (.const (.int .i64 0))⟩])
   (.cond (.tmp 37)
    (.seq (.region [
      ⟨(some 38), none, .pure, .mv (.tmp 7)⟩,
      ⟨(some 39), none, .pure, .mv (.tmp 0)⟩,
      ⟨(some 40), none, .pure, .nilCheck (.tmp 39)⟩,
      ⟨(some 41), none, .pure, .fieldAddr 4 (.tmp 40)⟩,
      ⟨(some 42), none, .read, .load false 1 (.tmp 41)⟩,
      ⟨(some 43), none, .pure, .mv (.tmp 6)⟩,
      ⟨(some 44), none, .pure, .indexAddr 4 (.tmp 42) (.tmp 43)⟩,
      ⟨(some 45), none, .pure, .fieldAddr 0 (.tmp 44)⟩,
      ⟨(some 46), none, .read, .load false 1 (.tmp 45)⟩,
      ⟨(some 4), none, .pure, .mv (.tmp 38)⟩,
      ⟨(some 5), none, .pure, .mv (.tmp 46)⟩])
    .ret)
    .skip)))))
  (.region [
    ⟨(some 13), none, .act, .mv (.tmp 6)⟩,
    ⟨(some 14), none, .act, .bin .sub (.tmp 13) (.const (.int .i64 1))⟩,
    ⟨(some 6), none, .act, .mv (.tmp 14)⟩])))
/-- (*plenum/rlog.Log).upTo -/
def r62 : RCode :=
  (.seq (.region [
    ⟨(some 4), none, .act, .mv (.const (.slice none 0 0))⟩,
    ⟨(some 5), none, .act, .mv (.const (.int .u64 0))⟩])
  (.seq (.seq (.region [
    ⟨(some 9), none, .act, .mv (.tmp 1)⟩,
    ⟨(some 10), none, .act, .bin .sub (.tmp 9) (.const (.int .i64 1))⟩,
    ⟨(some 6), none, .act, .mv (.tmp 10)⟩])
  (.block 0
   (.loop r62l0)))
  (.seq (.region [
    ⟨(some 47), none, .pure, .mv (.tmp 0)⟩,
    ⟨(some 48), none, .pure, .nilCheck (.tmp 47)⟩,
    ⟨(some 49), none, .pure, .fieldAddr 0 (.tmp 48)⟩,
    ⟨(some 50), none, .pure, .fieldAddr 2 (.tmp 49)⟩,
    ⟨(some 51), none, .read, .load false 1 (.tmp 50)⟩,
    ⟨(some 52), none, .read, .call 78 [(.tmp 51)]⟩,
    ⟨(some 53), none, .pure, .mv (.tmp 0)⟩,
    ⟨(some 54), none, .pure, .nilCheck (.tmp 53)⟩,
    ⟨(some 55), none, .pure, .fieldAddr 0 (.tmp 54)⟩,
    ⟨(some 56), none, .pure, .fieldAddr 0 (.tmp 55)⟩,
    ⟨(some 57), none, .read, .load false 1 (.tmp 56)⟩,
    ⟨(some 4), none, .pure, .mv (.tmp 52)⟩,
    ⟨(some 5), none, .pure, .mv (.tmp 57)⟩])
  .ret)))
theorem res62 : ∃ c, Tryz.f62.body = some c ∧ resCode Tryz.prog 58 c = some r62 := ⟨_, rfl, by kernel_rfl⟩
theorem rr62 : resRes Tryz.prog Tryz.f62.results.toList = some [.tmp 4, .tmp 5] := by kernel_rfl
theorem fok62 : FOk Tryz.prog 62 ⟨r62, 58, [.tmp 4, .tmp 5]⟩ := by
  obtain ⟨c, h1, h2⟩ := res62
  exact ⟨by kernel_rfl, _, c, Tryz.func62, h1, Tryz.ntmps62, h2, rr62⟩
/-- slices.Contains[[]uint64,uint64] -/
def r51 : RCode :=
  (.seq (.region [
    ⟨(some 4), none, .act, .mv (.const (.bool false))⟩])
  (.seq (.region [
    ⟨(some 5), none, .act, .mv (.tmp 0)⟩,
    ⟨(some 6), none, .act, .mv (.tmp 1)⟩,
    ⟨(some 7), none, .act, .call 73 [(.tmp 5), (.tmp 6)]⟩,
    ⟨(some 8), none, .act, .bin .geq (.tmp 7) (.const (.int .i64 0))⟩,
    ⟨(some 4), none, .act, .mv (.tmp 8)⟩])
  .ret))
theorem res51 : ∃ c, Tryz.f51.body = some c ∧ resCode Tryz.prog 9 c = some r51 := ⟨_, rfl, by kernel_rfl⟩
theorem rr51 : resRes Tryz.prog Tryz.f51.results.toList = some [.tmp 4] := by kernel_rfl
theorem fok51 : FOk Tryz.prog 51 ⟨r51, 9, [.tmp 4]⟩ := by
  obtain ⟨c, h1, h2⟩ := res51
  exact ⟨by kernel_rfl, _, c, Tryz.func51, h1, Tryz.ntmps51, h2, rr51⟩
def r73l0 : RCode :=
  (.seq (.region [
    ⟨(some 9), none, .act, .bin .lss (.tmp 8) (.tmp 7)⟩])
  (.seq (.cond (.tmp 9)
   .skip
   (.exit 0))
  (.seq (.block 1
   (.seq (.region [
     ⟨(some 10), none, .act, .mv (.tmp 8)⟩,
     ⟨(some 5), none, .act, .mv (.tmp 10)⟩])
   (.seq (.region [
     ⟨(some 11), none, .act, .mv (.tmp 1)⟩,
     ⟨(some 12), none, .act, .mv (.tmp 0)⟩,
     ⟨(some 13), none, .act, .mv (.tmp 5)⟩,
     ⟨(some 14), none, .act, .indexAddr 1 (.tmp 12) (.tmp 13)⟩,
     ⟨(some 15), none, .act, .load false 1 (.tmp 14)⟩,
     ⟨(some 16), none, .act, .eq false .int (.tmp 11) (.tmp 15)⟩])
   (.cond (.tmp 16)
    (.seq (.region [
      ⟨(some 17), none, .act, .mv (.tmp 5)⟩,
      ⟨(some 4), none, .act, .mv (.tmp 17)⟩])
    .ret)
    .skip))))
  (.region [
    ⟨(some 18), none, .act, .bin .add (.tmp 8) (.const (.int .i64 1))⟩,
    ⟨(some 8), none, .act, .mv (.tmp 18)⟩]))))
/-- slices.Index[[]uint64,uint64] -/
def r73 : RCode :=
  (.seq (.region [
    ⟨(some 4), none, .act, .mv (.const (.int .i64 0))⟩])
  (.seq (.seq (.region [
    ⟨(some 6), none, .act, .mv (.tmp 0)⟩,
    ⟨(some 7), none, .act, .len (.tmp 6)⟩,
    ⟨(some 8), none, .act, .mv (.const (.int .i64 0))⟩])
  (.block 0
   (.loop r73l0)))
  (.seq (.region [
    ⟨(some 4), none, .act, .mv (.const (.int .i64 (-1)))⟩])
  .ret)))
theorem res73 : ∃ c, Tryz.f73.body = some c ∧ resCode Tryz.prog 19 c = some r73 := ⟨_, rfl, by kernel_rfl⟩
theorem rr73 : resRes Tryz.prog Tryz.f73.results.toList = some [.tmp 4] := by kernel_rfl
theorem fok73 : FOk Tryz.prog 73 ⟨r73, 19, [.tmp 4]⟩ := by
  obtain ⟨c, h1, h2⟩ := res73
  exact ⟨by kernel_rfl, _, c, Tryz.func73, h1, Tryz.ntmps73, h2, rr73⟩
def r23l0 : RCode :=
  (.seq (.region [
    ⟨(some 46), none, .act, .bin .lss (.tmp 45) (.tmp 44)⟩])
  (.seq (.cond (.tmp 46)
   .skip
   (.exit 0))
  (.seq (.block 1
   (.seq (.region [
     ⟨(some 47), none, .act, .indexAddr 1 (.tmp 43) (.tmp 45)⟩,
     ⟨(some 48), none, .act, .load false 1 (.tmp 47)⟩,
     ⟨(some 5), none, .act, .mv (.tmp 48)⟩])
   (.seq (.seq (.region [
     ⟨(some 49), none, .act, .mv (.tmp 5)⟩,
     ⟨(some 50), none, .act, .mv (.tmp 0)⟩,
     ⟨(some 51), none, .act, .nilCheck (.tmp 50)⟩,
     ⟨(some 52), none, .act, .fieldAddr 0 (.tmp 51)⟩,
     ⟨(some 53), none, .act, .load false 1 (.tmp 52)⟩,
     ⟨(some 54), none, .act, .eq false .int (.tmp 49) (.tmp 53)⟩])
   (.cond (.tmp 54)
    (.exit 1)
    .skip))
   (.region [
     ⟨(some 55), none, .act, .mv (.tmp 0)⟩,
     ⟨(some 56), none, .act, .mv (.tmp 5)⟩,
     ⟨(some 57), none, .act, .mv (.tmp 2)⟩,
     ⟨(some 58), none, .act, .mv (.tmp 3)⟩,
     ⟨(some 59), none, .act, .build [(.int .i64 0), (.int .u64 0), (.int .u64 0), (.int .u64 0), (.int .u64 0), (.int .u64 0), (.int .u64 0), (.int .u64 0), (.bool false), (.slice none 0 0), (.int .u64 0), (.int .u64 0), (.slice none 0 0), (.slice none 0 0)] [(0, 1, (.const (.int .i64 1))), (2, 1, (.tmp 56)), (4, 1, (.tmp 57)), (5, 1, (.tmp 58))]⟩,
     ⟨(some 60), none, .act, .call 53 [(.tmp 55), (.tmp 59)]⟩]))))
  (.region [
    ⟨(some 61), none, .act, .bin .add (.tmp 45) (.const (.int .i64 1))⟩,
    ⟨(some 45), none, .act, .mv (.tmp 61)⟩]))))
/-- (*plenum/raft.Node).stand -/
def r23 : RCode :=
  (.seq (.region [
    ⟨(some 6), none, .pure, .mv (.tmp 0)⟩,
    ⟨(some 7), none, .pure, .mv (.tmp 0)⟩,
    ⟨(some 8), none, .pure, .nilCheck (.tmp 7)⟩,
    ⟨(some 9), none, .pure, .fieldAddr 1 (.tmp 8)⟩,
    ⟨(some 10), none, .pure, .fieldAddr 0 (.tmp 9)⟩,
    ⟨(some 11), none, .read, .load false 1 (.tmp 10)⟩,
    ⟨(some 12), none, .pure, .bin .add (.tmp 11) (.const (.int .u64 1))⟩,
    ⟨(some 13), none, .pure, .mv (.tmp 0)⟩,
    ⟨(some 14), none, .pure, .nilCheck (.tmp 13)⟩,
    ⟨(some 15), none, .pure, .fieldAddr 0 (.tmp 14)⟩,
    ⟨(some 16), none, .read, .load false 1 (.tmp 15)⟩,
    ⟨(some 17), none, .pure, .build [(.int .u64 0), (.int .u64 0)] [(0, 1, (.tmp 12)), (1, 1, (.tmp 16))]⟩,
    ⟨(some 18), none, .pure, .nilCheck (.tmp 6)⟩,
    ⟨(some 19), none, .pure, .fieldAddr 1 (.tmp 18)⟩,
    ⟨none, none, .act, .store 2 (.tmp 19) (.tmp 17)⟩])
  (.seq (.region [
    ⟨(some 20), none, .act, .mv (.tmp 0)⟩,
    ⟨(some 21), none, .act, .mv (.tmp 0)⟩,
    ⟨(some 22), none, .act, .nilCheck (.tmp 20)⟩,
    ⟨(some 23), none, .act, .fieldAddr 6 (.tmp 22)⟩,
    ⟨none, none, .act, .store 1 (.tmp 23) (.const (.int .i64 1))⟩,
    ⟨(some 24), none, .act, .nilCheck (.tmp 21)⟩,
    ⟨(some 25), none, .act, .fieldAddr 7 (.tmp 24)⟩,
    ⟨none, none, .act, .store 1 (.tmp 25) (.const (.int .u64 0))⟩])
  (.seq (.region [
    ⟨(some 26), none, .act, .mv (.tmp 0)⟩,
    ⟨(some 27), none, .act, .makeMap⟩,
    ⟨(some 28), none, .act, .mv (.tmp 0)⟩,
    ⟨(some 29), none, .act, .nilCheck (.tmp 28)⟩,
    ⟨(some 30), none, .act, .fieldAddr 0 (.tmp 29)⟩,
    ⟨(some 31), none, .act, .load false 1 (.tmp 30)⟩,
    ⟨none, none, .act, .mapUpdate 22 (.tmp 27) (.tmp 31) (.const (.bool true))⟩,
    ⟨(some 32), none, .act, .mv (.tmp 27)⟩,
    ⟨(some 33), none, .act, .nilCheck (.tmp 26)⟩,
    ⟨(some 34), none, .act, .fieldAddr 11 (.tmp 33)⟩,
    ⟨none, none, .act, .store 1 (.tmp 34) (.tmp 32)⟩])
  (.seq (.seq (.region [
    ⟨(some 35), none, .act, .mv (.tmp 0)⟩,
    ⟨(some 36), none, .act, .call 27 [(.tmp 35)]⟩])
  (.cond (.tmp 36)
   .ret
   .skip))
  (.seq (.region [
    ⟨(some 38), none, .act, .mv (.tmp 0)⟩,
    ⟨(some 39), none, .act, .call 52 [(.tmp 38)]⟩,
    ⟨(some 37), none, .act, .mv (.tmp 39)⟩,
    ⟨(some 40), none, .act, .extract (.tmp 37) 0⟩,
    ⟨(some 41), none, .act, .extract (.tmp 37) 1⟩,
    ⟨(some 2), none, .act, .mv (.tmp 40)⟩,
    ⟨(some 3), none, .act, .mv (.tmp 41)⟩])
  (.seq .skip
  (.seq (.region [
    ⟨(some 42), none, .act, .mv (.tmp 0)⟩,
    ⟨(some 43), none, .act, .call 49 [(.tmp 42)]⟩,
    ⟨(some 44), none, .act, .len (.tmp 43)⟩,
    ⟨(some 45), none, .act, .mv (.const (.int .i64 0))⟩])
  (.block 0
   (.loop r23l0)))))))))
theorem res23 : ∃ c, Tryz.f23.body = some c ∧ resCode Tryz.prog 62 c = some r23 := ⟨_, rfl, by kernel_rfl⟩
theorem rr23 : resRes Tryz.prog Tryz.f23.results.toList = some [] := by kernel_rfl
theorem fok23 : FOk Tryz.prog 23 ⟨r23, 62, []⟩ := by
  obtain ⟨c, h1, h2⟩ := res23
  exact ⟨by kernel_rfl, _, c, Tryz.func23, h1, Tryz.ntmps23, h2, rr23⟩
def r27l0 : RCode :=
  (.seq (.region [
    ⟨(some 27), none, .act, .bin .lss (.tmp 26) (.tmp 25)⟩])
  (.seq (.cond (.tmp 27)
   .skip
   (.exit 0))
  (.seq (.block 1
   (.seq (.region [
     ⟨(some 28), none, .act, .indexAddr 1 (.tmp 24) (.tmp 26)⟩,
     ⟨(some 29), none, .act, .load false 1 (.tmp 28)⟩,
     ⟨(some 4), none, .act, .mv (.tmp 29)⟩])
   (.region [
     ⟨(some 30), none, .read, .load false 1 (.tmp 1)⟩,
     ⟨(some 31), none, .pure, .nilCheck (.tmp 30)⟩,
     ⟨(some 32), none, .pure, .fieldAddr 12 (.tmp 31)⟩,
     ⟨(some 33), none, .read, .load false 1 (.tmp 32)⟩,
     ⟨(some 34), none, .pure, .mv (.tmp 4)⟩,
     ⟨(some 35), none, .read, .load false 1 (.tmp 1)⟩,
     ⟨(some 36), none, .pure, .nilCheck (.tmp 35)⟩,
     ⟨(some 37), none, .pure, .fieldAddr 5 (.tmp 36)⟩,
     ⟨(some 38), none, .read, .load false 1 (.tmp 37)⟩,
     ⟨(some 39), none, .read, .call 56 [(.tmp 38)]⟩,
     ⟨(some 40), none, .pure, .bin .add (.tmp 39) (.const (.int .u64 1))⟩,
     ⟨(some 41), none, .pure, .build [(.int .u64 0), (.int .u64 0)] [(0, 1, (.tmp 40))]⟩,
     ⟨none, none, .act, .mapUpdate 22 (.tmp 33) (.tmp 34) (.tmp 41)⟩])))
  (.region [
    ⟨(some 42), none, .act, .bin .add (.tmp 26) (.const (.int .i64 1))⟩,
    ⟨(some 26), none, .act, .mv (.tmp 42)⟩]))))
/-- (*plenum/raft.Node).won -/
def r27 : RCode :=
  (.seq (.region [
    ⟨(some 1), none, .act, .box (.tmp 0)⟩,
    ⟨(some 2), none, .act, .mv (.const (.bool false))⟩])
  (.seq (.seq (.region [
    ⟨(some 5), none, .act, .load false 1 (.tmp 1)⟩,
    ⟨(some 6), none, .act, .makeFunc (.func 55) [] [(.tmp 1)]⟩,
    ⟨(some 7), none, .act, .call 54 [(.tmp 5), (.tmp 6)]⟩,
    ⟨(some 8), none, .act, .un .not (.tmp 7)⟩])
  (.cond (.tmp 8)
   (.seq (.region [
     ⟨(some 2), none, .act, .mv (.const (.bool false))⟩])
   .ret)
   .skip))
  (.seq (.regionT (.step ⟨(some 9), none, .read, .load false 1 (.tmp 1)⟩ (.step ⟨(some 11), none, .read, .load false 1 (.tmp 1)⟩ (.step ⟨(some 12), none, .pure, .nilCheck (.tmp 11)⟩ (.step ⟨(some 13), none, .pure, .fieldAddr 0 (.tmp 12)⟩ (.step ⟨(some 14), none, .read, .load false 1 (.tmp 13)⟩ (.step ⟨(some 15), none, .pure, .nilCheck (.tmp 9)⟩ (.step ⟨(some 16), none, .pure, .fieldAddr 6 (.tmp 15)⟩ (.alt ⟨(some 10), none, .read, .load false 1 (.tmp 1)⟩ (.alt ⟨none, none, .act, .store 1 (.tmp 16) (.const (.int .i64 2))⟩ (.step ⟨(some 17), none, .pure, .nilCheck (.tmp 10)⟩ (.step ⟨(some 18), none, .pure, .fieldAddr 7 (.tmp 17)⟩ (.alt ⟨none, none, .act, .store 1 (.tmp 18) (.tmp 14)⟩ .done
    .stop)))
    .stop)
    (.alt ⟨none, none, .act, .store 1 (.tmp 16) (.const (.int .i64 2))⟩ (.step ⟨(some 10), none, .read, .load false 1 (.tmp 1)⟩ (.step ⟨(some 17), none, .pure, .nilCheck (.tmp 10)⟩ (.step ⟨(some 18), none, .pure, .fieldAddr 7 (.tmp 17)⟩ (.alt ⟨none, none, .act, .store 1 (.tmp 18) (.tmp 14)⟩ .done
    .stop))))
    .stop))))))))))
  (.seq (.region [
    ⟨(some 19), none, .act, .load false 1 (.tmp 1)⟩,
    ⟨(some 20), none, .act, .makeMap⟩,
    ⟨(some 21), none, .act, .nilCheck (.tmp 19)⟩,
    ⟨(some 22), none, .act, .fieldAddr 12 (.tmp 21)⟩,
    ⟨none, none, .act, .store 1 (.tmp 22) (.tmp 20)⟩])
  (.seq (.seq (.region [
    ⟨(some 23), none, .act, .load false 1 (.tmp 1)⟩,
    ⟨(some 24), none, .act, .call 49 [(.tmp 23)]⟩,
    ⟨(some 25), none, .act, .len (.tmp 24)⟩,
    ⟨(some 26), none, .act, .mv (.const (.int .i64 0))⟩])
  (.block 0
   (.loop r27l0)))
  (.seq (.region [
    ⟨(some 43), none, .act, .load false 1 (.tmp 1)⟩,
    ⟨(some 44), none, .act, .call 32 [(.tmp 43), (.const (.int .i64 0)), (.const (.slice none 0 0))]⟩])
  (.seq (.region [
    ⟨(some 2), none, .act, .mv (.const (.bool true))⟩])
  .ret)))))))
theorem res27 : ∃ c, Tryz.f27.body = some c ∧ resCode Tryz.prog 45 c = some r27 := ⟨_, rfl, by kernel_rfl⟩
theorem rr27 : resRes Tryz.prog Tryz.f27.results.toList = some [.tmp 2] := by kernel_rfl
theorem fok27 : FOk Tryz.prog 27 ⟨r27, 45, [.tmp 2]⟩ := by
  obtain ⟨c, h1, h2⟩ := res27
  exact ⟨by kernel_rfl, _, c, Tryz.func27, h1, Tryz.ntmps27, h2, rr27⟩
def r54l0 : RCode :=
  (.seq (.region [
    ⟨(some 14), none, .act, .bin .lss (.tmp 13) (.tmp 12)⟩])
  (.seq (.cond (.tmp 14)
   .skip
   (.exit 0))
  (.seq (.block 1
   (.seq (.region [
     ⟨(some 15), none, .act, .indexAddr 1 (.tmp 11) (.tmp 13)⟩,
     ⟨(some 16), none, .act, .load false 1 (.tmp 15)⟩,
     ⟨(some 8), none, .act, .mv (.tmp 16)⟩])
   (.seq (.region [
     ⟨(some 17), none, .act, .mv (.tmp 1)⟩,
     ⟨(some 18), none, .act, .mv (.tmp 8)⟩,
     ⟨(some 19), none, .act, .callv (.tmp 17) [(.tmp 18)]⟩])
   (.cond (.tmp 19)
    (.region [
      ⟨(some 20), none, .act, .mv (.tmp 6)⟩,
      ⟨(some 21), none, .act, .bin .add (.tmp 20) (.const (.int .i64 1))⟩,
      ⟨(some 6), none, .act, .mv (.tmp 21)⟩])
    .skip))))
  (.region [
    ⟨(some 22), none, .act, .bin .add (.tmp 13) (.const (.int .i64 1))⟩,
    ⟨(some 13), none, .act, .mv (.tmp 22)⟩]))))
/-- (*plenum/raft.Node).majority -/
def r54 : RCode :=
  (.seq (.region [
    ⟨(some 4), none, .act, .mv (.const (.bool false))⟩])
  (.seq (.region [
    ⟨(some 9), none, .act, .mv (.tmp 0)⟩,
    ⟨(some 10), none, .act, .call 49 [(.tmp 9)]⟩,
    ⟨(some 5), none, .act, .mv (.tmp 10)⟩])
  (.seq (.region [
    ⟨(some 6), none, .act, .mv (.const (.int .i64 0))⟩])
  (.seq (.seq (.region [
    ⟨(some 11), none, .act, .mv (.tmp 5)⟩,
    ⟨(some 12), none, .act, .len (.tmp 11)⟩,
    ⟨(some 13), none, .act, .mv (.const (.int .i64 0))⟩])
  (.block 0
   (.loop r54l0)))
  (.seq (.region [
    ⟨(some 23), none, .act, .mv (.tmp 6)⟩,
    ⟨(some 24), none, .act, .bin .mul (.const (.int .i64 2)) (.tmp 23)⟩,
    ⟨(some 25), none, .act, .mv (.tmp 5)⟩,
    ⟨(some 26), none, .act, .len (.tmp 25)⟩,
    ⟨(some 27), none, .act, .bin .gtr (.tmp 24) (.tmp 26)⟩,
    ⟨(some 4), none, .act, .mv (.tmp 27)⟩])
  .ret)))))
theorem res54 : ∃ c, Tryz.f54.body = some c ∧ resCode Tryz.prog 28 c = some r54 := ⟨_, rfl, by kernel_rfl⟩
theorem rr54 : resRes Tryz.prog Tryz.f54.results.toList = some [.tmp 4] := by kernel_rfl
theorem fok54 : FOk Tryz.prog 54 ⟨r54, 28, [.tmp 4]⟩ := by
  obtain ⟨c, h1, h2⟩ := res54
  exact ⟨by kernel_rfl, _, c, Tryz.func54, h1, Tryz.ntmps54, h2, rr54⟩
/-- (*plenum/raft.Node).won$1 -/
def r55 : RCode :=
  (.seq (.region [
    ⟨(some 3), none, .act, .mv (.const (.bool false))⟩])
  (.seq (.region [
    ⟨(some 4), none, .act, .load false 1 (.tmp 1)⟩,
    ⟨(some 5), none, .act, .nilCheck (.tmp 4)⟩,
    ⟨(some 6), none, .act, .fieldAddr 11 (.tmp 5)⟩,
    ⟨(some 7), none, .act, .load false 1 (.tmp 6)⟩,
    ⟨(some 8), none, .act, .mv (.tmp 0)⟩,
    ⟨(some 9), none, .act, .lookup 22 (.bool false) (.tmp 7) (.tmp 8) false⟩,
    ⟨(some 3), none, .act, .mv (.tmp 9)⟩])
  .ret))
theorem res55 : ∃ c, Tryz.f55.body = some c ∧ resCode Tryz.prog 10 c = some r55 := ⟨_, rfl, by kernel_rfl⟩
theorem rr55 : resRes Tryz.prog Tryz.f55.results.toList = some [.tmp 3] := by kernel_rfl
theorem fok55 : FOk Tryz.prog 55 ⟨r55, 10, [.tmp 3]⟩ := by
  obtain ⟨c, h1, h2⟩ := res55
  exact ⟨by kernel_rfl, _, c, Tryz.func55, h1, Tryz.ntmps55, h2, rr55⟩
/-- (*plenum/rlog.Log).Last -/
def r56 : RCode :=
  (.seq (.region [
    ⟨(some 2), none, .act, .mv (.const (.int .u64 0))⟩])
  (.seq (.seq (.region [
    ⟨(some 3), none, .act, .mv (.tmp 0)⟩,
    ⟨(some 4), none, .act, .eq false .ptr (.tmp 3) (.const (.pointer none))⟩])
  (.cond (.tmp 4)
   (.seq (.region [
     ⟨(some 2), none, .act, .mv (.const (.int .u64 0))⟩])
   .ret)
   .skip))
  (.seq (.region [
    ⟨(some 5), none, .pure, .mv (.tmp 0)⟩,
    ⟨(some 6), none, .pure, .nilCheck (.tmp 5)⟩,
    ⟨(some 7), none, .pure, .fieldAddr 0 (.tmp 6)⟩,
    ⟨(some 8), none, .pure, .fieldAddr 0 (.tmp 7)⟩,
    ⟨(some 9), none, .read, .load false 1 (.tmp 8)⟩,
    ⟨(some 10), none, .pure, .mv (.tmp 0)⟩,
    ⟨(some 11), none, .pure, .nilCheck (.tmp 10)⟩,
    ⟨(some 12), none, .pure, .fieldAddr 4 (.tmp 11)⟩,
    ⟨(some 13), none, .read, .load false 1 (.tmp 12)⟩,
    ⟨(some 14), none, .pure, .len (.tmp 13)⟩,
    ⟨(some 15), none, .pure, .convInt .u64 (.tmp 14)⟩,
    ⟨(some 16), none, .pure, .bin .add (.tmp 9) (.tmp 15)⟩,
    ⟨(some 2), none, .pure, .mv (.tmp 16)⟩])
  .ret)))
theorem res56 : ∃ c, Tryz.f56.body = some c ∧ resCode Tryz.prog 17 c = some r56 := ⟨_, rfl, by kernel_rfl⟩
theorem rr56 : resRes Tryz.prog Tryz.f56.results.toList = some [.tmp 2] := by kernel_rfl
theorem fok56 : FOk Tryz.prog 56 ⟨r56, 17, [.tmp 2]⟩ := by
  obtain ⟨c, h1, h2⟩ := res56
  exact ⟨by kernel_rfl, _, c, Tryz.func56, h1, Tryz.ntmps56, h2, rr56⟩
def r32l0 : RCode :=
  (.seq (.region [
    ⟨(some 37), none, .act, .bin .lss (.tmp 36) (.tmp 35)⟩])
  (.seq (.cond (.tmp 37)
   .skip
   (.exit 0))
  (.seq (.block 1
   (.seq (.region [
     ⟨(some 38), none, .act, .indexAddr 1 (.tmp 34) (.tmp 36)⟩,
     ⟨(some 39), none, .act, .load false 1 (.tmp 38)⟩,
     ⟨(some 9), none, .act, .mv (.tmp 39)⟩])
   (.seq (.region [
     ⟨(some 41), none, .act, .mv (.tmp 0)⟩,
     ⟨(some 42), none, .act, .nilCheck (.tmp 41)⟩,
     ⟨(some 43), none, .act, .fieldAddr 12 (.tmp 42)⟩,
     ⟨(some 44), none, .act, .load false 1 (.tmp 43)⟩,
     ⟨(some 45), none, .act, .mv (.tmp 9)⟩,
     ⟨(some 46), none, .act, .lookup 22 (.agg #[(.int .u64 0), (.int .u64 0)]) (.tmp 44) (.tmp 45) true⟩,
     ⟨(some 40), none, .act, .mv (.tmp 46)⟩,
     ⟨(some 47), none, .act, .extract (.tmp 40) 0⟩,
     ⟨(some 48), none, .act, .extract (.tmp 40) 1⟩,
     ⟨(some 10), none, .act, .alloc [(.int .u64 0), (.int .u64 0)]⟩,
     ⟨none, none, .act, .store 2 (.tmp 10) (.tmp 47)⟩,
     ⟨(some 11), none, .act, .mv (.tmp 48)⟩])
   (.seq (.region [
     ⟨(some 49), none, .act, .mv (.tmp 11)⟩,
     ⟨(some 50), none, .act, .un .not (.tmp 49)⟩])
   (.cond (.tmp 50)
    (.region [
      ⟨(some 51), none, .act, .mv (.tmp 0)⟩,
      ⟨(some 52), none, .act, .nilCheck (.tmp 51)⟩,
      ⟨(some 53), none, .act, .fieldAddr 12 (.tmp 52)⟩,
      ⟨(some 54), none, .act, .load false 1 (.tmp 53)⟩,
      ⟨(some 55), none, .act, .mv (.tmp 9)⟩,
      ⟨(some 56), none, .act, .mv (.tmp 7)⟩,
      ⟨(some 57), none, .act, .build [(.int .u64 0), (.int .u64 0)] [(0, 1, (.tmp 56))]⟩,
      ⟨none, none, .act, .mapUpdate 22 (.tmp 54) (.tmp 55) (.tmp 57)⟩])
    .skip)))))
  (.region [
    ⟨(some 58), none, .act, .bin .add (.tmp 36) (.const (.int .i64 1))⟩,
    ⟨(some 36), none, .act, .mv (.tmp 58)⟩]))))
/-- (*plenum/raft.Node).add -/
def r32 : RCode :=
  (.seq (.region [
    ⟨(some 6), none, .act, .mv (.const (.int .u64 0))⟩])
  (.seq (.region [
    ⟨(some 12), none, .act, .mv (.tmp 0)⟩,
    ⟨(some 13), none, .act, .nilCheck (.tmp 12)⟩,
    ⟨(some 14), none, .act, .fieldAddr 5 (.tmp 13)⟩,
    ⟨(some 15), none, .act, .load false 1 (.tmp 14)⟩,
    ⟨(some 16), none, .act, .call 56 [(.tmp 15)]⟩,
    ⟨(some 17), none, .act, .bin .add (.tmp 16) (.const (.int .u64 1))⟩,
    ⟨(some 7), none, .act, .mv (.tmp 17)⟩])
  (.seq (.region [
    ⟨(some 18), none, .pure, .mv (.tmp 0)⟩,
    ⟨(some 19), none, .pure, .nilCheck (.tmp 18)⟩,
    ⟨(some 20), none, .pure, .fieldAddr 5 (.tmp 19)⟩,
    ⟨(some 21), none, .read, .load false 1 (.tmp 20)⟩,
    ⟨(some 22), none, .pure, .mv (.tmp 7)⟩,
    ⟨(some 23), none, .pure, .mv (.tmp 0)⟩,
    ⟨(some 24), none, .pure, .nilCheck (.tmp 23)⟩,
    ⟨(some 25), none, .pure, .fieldAddr 1 (.tmp 24)⟩,
    ⟨(some 26), none, .pure, .fieldAddr 0 (.tmp 25)⟩,
    ⟨(some 27), none, .read, .load false 1 (.tmp 26)⟩,
    ⟨(some 28), none, .pure, .mv (.tmp 1)⟩,
    ⟨(some 29), none, .pure, .mv (.tmp 2)⟩,
    ⟨(some 30), none, .pure, .build [(.int .u64 0), (.int .u64 0), (.int .i64 0), (.slice none 0 0)] [(0, 1, (.tmp 22)), (1, 1, (.tmp 27)), (2, 1, (.tmp 28)), (3, 1, (.tmp 29))]⟩,
    ⟨(some 31), none, .pure, .buildSl 4 [(.int .u64 0), (.int .u64 0), (.int .i64 0), (.slice none 0 0)] 1 [(0, (.tmp 30))]⟩,
    ⟨(some 32), none, .act, .call 59 [(.tmp 21), (.tmp 31)]⟩])
  (.seq (.seq (.region [
    ⟨(some 33), none, .act, .mv (.tmp 0)⟩,
    ⟨(some 34), none, .act, .call 49 [(.tmp 33)]⟩,
    ⟨(some 35), none, .act, .len (.tmp 34)⟩,
    ⟨(some 36), none, .act, .mv (.const (.int .i64 0))⟩])
  (.block 0
   (.loop r32l0)))
  (.seq (.region [
    ⟨(some 59), none, .act, .mv (.tmp 0)⟩,
    ⟨(some 60), none, .act, .call 61 [(.tmp 59)]⟩])
  (.seq (.seq (.region [
    ⟨(some 61), none, .act, .mv (.tmp 0)⟩,
    ⟨(some 62), none, .act, .nilCheck (.tmp 61)⟩,
    ⟨(some 63), none, .act, .fieldAddr 6 (.tmp 62)⟩,
    ⟨(some 64), none, .act, .load false 1 (.tmp 63)⟩,
    ⟨(some 65), none, .act, .eq false .int (.tmp 64) (.const (.int .i64 2))⟩])
  (.cond (.tmp 65)
   (.region [
     ⟨(some 66), none, .act, .mv (.tmp 0)⟩,
     ⟨(some 67), none, .act, .call 21 [(.tmp 66)]⟩])
   .skip))
  (.seq (.region [
    ⟨(some 68), none, .act, .mv (.tmp 7)⟩,
    ⟨(some 6), none, .act, .mv (.tmp 68)⟩])
  .ret)))))))
theorem res32 : ∃ c, Tryz.f32.body = some c ∧ resCode Tryz.prog 69 c = some r32 := ⟨_, rfl, by kernel_rfl⟩
theorem rr32 : resRes Tryz.prog Tryz.f32.results.toList = some [.tmp 6] := by kernel_rfl
theorem fok32 : FOk Tryz.prog 32 ⟨r32, 69, [.tmp 6]⟩ := by
  obtain ⟨c, h1, h2⟩ := res32
  exact ⟨by kernel_rfl, _, c, Tryz.func32, h1, Tryz.ntmps32, h2, rr32⟩
def r59l0 : RCode :=
  (.seq (.region [
    ⟨(some 54), none, .act, .bin .lss (.tmp 53) (.tmp 52)⟩])
  (.seq (.cond (.tmp 54)
   .skip
   (.exit 0))
  (.seq (.block 1
   (.seq (.region [
     ⟨(some 55), none, .act, .indexAddr 4 (.tmp 51) (.tmp 53)⟩,
     ⟨(some 56), none, .act, .load true 4 (.tmp 55)⟩,
     ⟨(some 8), none, .act, .alloc [(.int .u64 0), (.int .u64 0), (.int .i64 0), (.slice none 0 0)]⟩,
     ⟨none, none, .act, .store 4 (.tmp 8) (.tmp 56)⟩])
   (.region [
     ⟨(some 57), none, .pure, .mv (.tmp 0)⟩,
     ⟨(some 58), none, .pure, .mv (.tmp 0)⟩,
     ⟨(some 59), none, .pure, .nilCheck (.tmp 58)⟩,
     ⟨(some 60), none, .pure, .fieldAddr 4 (.tmp 59)⟩,
     ⟨(some 61), none, .read, .load false 1 (.tmp 60)⟩,
     ⟨(some 62), none, .read, .load true 4 (.tmp 8)⟩,
     ⟨(some 63), none, .read, .call 71 [(.tmp 62)]⟩,
     ⟨(some 64), none, .pure, .buildSl 4 [(.int .u64 0), (.int .u64 0), (.int .i64 0), (.slice none 0 0)] 1 [(0, (.tmp 63))]⟩,
     ⟨(some 65), none, .act, .append 4 48 [(.int .u64 0), (.int .u64 0), (.int .i64 0), (.slice none 0 0)] (.tmp 61) (.tmp 64)⟩,
     ⟨(some 66), none, .pure, .nilCheck (.tmp 57)⟩,
     ⟨(some 67), none, .pure, .fieldAddr 4 (.tmp 66)⟩,
     ⟨none, none, .act, .store 1 (.tmp 67) (.tmp 65)⟩])))
  (.region [
    ⟨(some 68), none, .act, .bin .add (.tmp 53) (.const (.int .i64 1))⟩,
    ⟨(some 53), none, .act, .mv (.tmp 68)⟩]))))
/-- (*plenum/rlog.Log).Append -/
def r59 : RCode :=
  (.seq (.region [
    ⟨(some 4), none, .act, .mv (.const (.int .i64 0))⟩])
  (.seq (.seq (.region [
    ⟨(some 9), none, .act, .mv (.tmp 1)⟩,
    ⟨(some 10), none, .act, .len (.tmp 9)⟩,
    ⟨(some 11), none, .act, .eq false .int (.tmp 10) (.const (.int .i64 0))⟩])
  (.cond (.tmp 11)
   (.seq (.region [
     ⟨(some 4), none, .act, .mv (.const (.int .i64 0))⟩])
   .ret)
   .skip))
  (.seq (.region [
    ⟨(some 12), none, .act, .mv (.tmp 1)⟩,
    ⟨(some 13), none, .act, .indexAddr 4 (.tmp 12) (.const (.int .i64 0))⟩,
    ⟨(some 14), none, .act, .fieldAddr 0 (.tmp 13)⟩,
    ⟨(some 15), none, .act, .load false 1 (.tmp 14)⟩,
    ⟨(some 5), none, .act, .mv (.tmp 15)⟩])
  (.seq (.seq (.region [
    ⟨(some 16), none, .act, .mv (.tmp 0)⟩,
    ⟨(some 17), none, .act, .eq false .ptr (.tmp 16) (.const (.pointer none))⟩,
    ⟨(some 18), none, .act, .mv (.tmp 17)⟩,
    ⟨(some 19), (some (18, false)), .act, .mv (.tmp 1)⟩,
    ⟨(some 20), (some (18, false)), .act, .call 74 [(.tmp 19)]⟩,
    ⟨(some 21), (some (18, false)), .act, .un .not (.tmp 20)⟩,
    ⟨(some 22), none, .act, .pick (.tmp 18) (.const (.bool true)) (.tmp 21)⟩,
    ⟨(some 23), none, .act, .mv (.tmp 22)⟩,
    ⟨(some 24), (some (23, false)), .act, .mv (.tmp 5)⟩,
    ⟨(some 25), (some (23, false)), .act, .mv (.tmp 0)⟩,
    ⟨(some 26), (some (23, false)), .act, .call 45 [(.tmp 25)]⟩,
    ⟨(some 27), (some (23, false)), .act, .bin .lss (.tmp 24) (.tmp 26)⟩,
    ⟨(some 28), none, .act, .pick (.tmp 23) (.const (.bool true)) (.tmp 27)⟩,
    ⟨(some 29), none, .act, .mv (.tmp 28)⟩,
    ⟨(some 30), (some (29, false)), .act, .mv (.tmp 5)⟩,
    ⟨(some 31), (some (29, false)), .act, .bin .sub (.tmp 30) (.const (.int .u64 1))⟩,
    ⟨(some 32), (some (29, false)), .act, .mv (.tmp 0)⟩,
    ⟨(some 33), (some (29, false)), .act, .call 56 [(.tmp 32)]⟩,
    ⟨(some 34), (some (29, false)), .act, .bin .gtr (.tmp 31) (.tmp 33)⟩,
    ⟨(some 35), none, .act, .pick (.tmp 29) (.const (.bool true)) (.tmp 34)⟩])
  (.cond (.tmp 35)
   (.seq (.region [
     ⟨(some 4), none, .act, .mv (.const (.int .i64 80))⟩])
   .ret)
   .skip))
  (.seq (.region [
    ⟨(some 36), none, .act, .mv (.tmp 5)⟩,
    ⟨(some 37), none, .act, .mv (.tmp 0)⟩,
    ⟨(some 38), none, .act, .call 45 [(.tmp 37)]⟩,
    ⟨(some 39), none, .act, .bin .sub (.tmp 36) (.tmp 38)⟩,
    ⟨(some 40), none, .act, .convInt .i64 (.tmp 39)⟩,
    ⟨(some 6), none, .act, .mv (.tmp 40)⟩])
  (.seq (.region [
    ⟨(some 41), none, .act, .mv (.tmp 0)⟩,
    ⟨(some 42), none, .act, .mv (.tmp 0)⟩,
    ⟨(some 43), none, .act, .nilCheck (.tmp 42)⟩,
    ⟨(some 44), none, .act, .fieldAddr 4 (.tmp 43)⟩,
    ⟨(some 45), none, .act, .load false 1 (.tmp 44)⟩,
    ⟨(some 46), none, .act, .mv (.tmp 6)⟩,
    ⟨(some 47), none, .act, .mv (.tmp 6)⟩,
    ⟨(some 48), none, .act, .sliceSl 4 (.tmp 45) none (some (.tmp 46)) (some (.tmp 47))⟩,
    ⟨(some 49), none, .act, .nilCheck (.tmp 41)⟩,
    ⟨(some 50), none, .act, .fieldAddr 4 (.tmp 49)⟩,
    ⟨none, none, .act, .store 1 (.tmp 50) (.tmp 48)⟩])
  (.seq (.seq (.region [
    ⟨(some 51), none, .act, .mv (.tmp 1)⟩,
    ⟨(some 52), none, .act, .len (.tmp 51)⟩,
    ⟨(some 53), none, .act, .mv (.const (.int .i64 0))⟩])
  (.block 0
   (.loop r59l0)))
  (.seq (.seq (.region [
    ⟨(some 69), none, .act, .mv (.tmp 0)⟩,
    ⟨(some 70), none, .act, .nilCheck (.tmp 69)⟩,
    ⟨(some 71), none, .act, .fieldAddr 5 (.tmp 70)⟩,
    ⟨(some 72), none, .act, .load false 1 (.tmp 71)⟩,
    ⟨(some 73), none, .act, .eq false .int (.tmp 72) (.const (.int .u64 0))⟩,
    ⟨(some 74), none, .act, .mv (.tmp 73)⟩,
    ⟨(some 75), (some (74, false)), .act, .mv (.tmp 5)⟩,
    ⟨(some 76), (some (74, false)), .act, .mv (.tmp 0)⟩,
    ⟨(some 77), (some (74, false)), .act, .nilCheck (.tmp 76)⟩,
    ⟨(some 78), (some (74, false)), .act, .fieldAddr 5 (.tmp 77)⟩,
    ⟨(some 79), (some (74, false)), .act, .load false 1 (.tmp 78)⟩,
    ⟨(some 80), (some (74, false)), .act, .bin .lss (.tmp 75) (.tmp 79)⟩,
    ⟨(some 81), none, .act, .pick (.tmp 74) (.const (.bool true)) (.tmp 80)⟩])
  (.cond (.tmp 81)
   (.region [
     ⟨(some 82), none, .act, .mv (.tmp 0)⟩,
     ⟨(some 83), none, .act, .mv (.tmp 5)⟩,
     ⟨(some 84), none, .act, .nilCheck (.tmp 82)⟩,
     ⟨(some 85), none, .act, .fieldAddr 5 (.tmp 84)⟩,
     ⟨none, none, .act, .store 1 (.tmp 85) (.tmp 83)⟩])
   .skip))
  (.seq (.region [
    ⟨(some 4), none, .act, .mv (.const (.int .i64 0))⟩])
  .ret)))))))))
theorem res59 : ∃ c, Tryz.f59.body = some c ∧ resCode Tryz.prog 86 c = some r59 := ⟨_, rfl, by kernel_rfl⟩
theorem rr59 : resRes Tryz.prog Tryz.f59.results.toList = some [.tmp 4] := by kernel_rfl
theorem fok59 : FOk Tryz.prog 59 ⟨r59, 86, [.tmp 4]⟩ := by
  obtain ⟨c, h1, h2⟩ := res59
  exact ⟨by kernel_rfl, _, c, Tryz.func59, h1, Tryz.ntmps59, h2, rr59⟩
def r74l0 : RCode :=
  (.seq (.seq (.region [
    ⟨(some 4), none, .act, .mv (.tmp 3)⟩,
    ⟨(some 5), none, .act, .mv (.tmp 0)⟩,
    ⟨(some 6), none, .act, .len (.tmp 5)⟩,
    ⟨(some 7), none, .act, .bin .lss (.tmp 4) (.tmp 6)⟩])
  (.cond (.tmp 7)
   .skip
   (.exit 0)))
  (.seq (.block 1
   (.seq (.region [
     ⟨(some 10), none, .pure, .mv (.tmp 0)⟩,
     ⟨(some 11), none, .pure, .mv (.tmp 3)⟩,
     ⟨(some 12), none, .pure, .indexAddr 4 (.tmp 10) (.tmp 11)⟩,
     ⟨(some 13), none, .pure, .fieldAddr 0 (.tmp 12)⟩,
     ⟨(some 14), none, .read, .load false 1 (.tmp 13)⟩,
     ⟨(some 15), none, .pure, .bin .sub (.tmp 14) (.const (.int .u64 1))⟩,
     ⟨(some 16), none, .pure, .mv (.tmp 0)⟩,
     ⟨(some 17), none, .pure, .mv (.tmp 3)⟩,
     ⟨(some 18), none, .pure, .bin .sub (.tmp 17) (.const (.int .i64 1))⟩,
     ⟨(some 19), none, .pure, .indexAddr 4 (.tmp 16) (.tmp 18)⟩,
     ⟨(some 20), none, .pure, .fieldAddr 0 (.tmp 19)⟩,
     ⟨(some 21), none, .read, .load false 1 (.tmp 20)⟩,
     ⟨(some 22), none, .pure, .eq true .int (.tmp 15) (.tmp 21)⟩])
   (.cond (.tmp 22)
    (.seq (.region [
      ⟨(some 2), none, .act, .mv (.const (.bool false))⟩])
    .ret)
    .skip)))
  (.region [
    ⟨(some 8), none, .act, .mv (.tmp 3)⟩,
    ⟨(some 9), none, .act, .bin .add (.tmp 8) (.const (.int .i64 1))⟩,
    ⟨(some 3), none, .act, .mv (.tmp 9)⟩])))
/-- plenum/rlog.follow -/
def r74 : RCode :=
  (.seq (.region [
    ⟨(some 2), none, .act, .mv (.const (.bool false))⟩])
  (.seq (.seq (.region [
    ⟨(some 3), none, .act, .mv (.const (.int .i64 1))⟩])
  (.block 0
   (.loop r74l0)))
  (.seq (.region [
    ⟨(some 2), none, .act, .mv (.const (.bool true))⟩])
  .ret)))
theorem res74 : ∃ c, Tryz.f74.body = some c ∧ resCode Tryz.prog 23 c = some r74 := ⟨_, rfl, by kernel_rfl⟩
theorem rr74 : resRes Tryz.prog Tryz.f74.results.toList = some [.tmp 2] := by kernel_rfl
theorem fok74 : FOk Tryz.prog 74 ⟨r74, 23, [.tmp 2]⟩ := by
  obtain ⟨c, h1, h2⟩ := res74
  exact ⟨by kernel_rfl, _, c, Tryz.func74, h1, Tryz.ntmps74, h2, rr74⟩
/-- (*plenum/rlog.Log).First -/
def r45 : RCode :=
  (.seq (.region [
    ⟨(some 2), none, .act, .mv (.const (.int .u64 0))⟩])
  (.seq (.seq (.region [
    ⟨(some 3), none, .act, .mv (.tmp 0)⟩,
    ⟨(some 4), none, .act, .eq false .ptr (.tmp 3) (.const (.pointer none))⟩])
  (.cond (.tmp 4)
   (.seq (.region [
     ⟨(some 2), none, .act, .mv (.const (.int .u64 1))⟩])
   .ret)
   .skip))
  (.seq (.region [
    ⟨(some 5), none, .act, .mv (.tmp 0)⟩,
    ⟨(some 6), none, .act, .nilCheck (.tmp 5)⟩,
    ⟨(some 7), none, .act, .fieldAddr 0 (.tmp 6)⟩,
    ⟨(some 8), none, .act, .fieldAddr 0 (.tmp 7)⟩,
    ⟨(some 9), none, .act, .load false 1 (.tmp 8)⟩,
    ⟨(some 10), none, .act, .bin .add (.tmp 9) (.const (.int .u64 1))⟩,
    ⟨(some 2), none, .act, .mv (.tmp 10)⟩])
  .ret)))
theorem res45 : ∃ c, Tryz.f45.body = some c ∧ resCode Tryz.prog 11 c = some r45 := ⟨_, rfl, by kernel_rfl⟩
theorem rr45 : resRes Tryz.prog Tryz.f45.results.toList = some [.tmp 2] := by kernel_rfl
theorem fok45 : FOk Tryz.prog 45 ⟨r45, 11, [.tmp 2]⟩ := by
  obtain ⟨c, h1, h2⟩ := res45
  exact ⟨by kernel_rfl, _, c, Tryz.func45, h1, Tryz.ntmps45, h2, rr45⟩
/-- plenum/rlog.own -/
def r71 : RCode :=
  (.seq (.region [
    ⟨(some 1), none, .act, .box (.tmp 0)⟩,
    ⟨(some 2), none, .act, .alloc [(.int .u64 0), (.int .u64 0), (.int .i64 0), (.slice none 0 0)]⟩])
  (.seq (.region [
    ⟨(some 3), none, .act, .fieldAddr 3 (.tmp 1)⟩,
    ⟨(some 4), none, .act, .load false 1 (.tmp 3)⟩,
    ⟨(some 5), none, .act, .call 33 [(.tmp 4)]⟩,
    ⟨(some 6), none, .act, .fieldAddr 3 (.tmp 1)⟩,
    ⟨none, none, .act, .store 1 (.tmp 6) (.tmp 5)⟩])
  (.seq (.region [
    ⟨(some 7), none, .act, .load true 4 (.tmp 1)⟩,
    ⟨none, none, .act, .store 4 (.tmp 2) (.tmp 7)⟩])
  .ret)))
theorem res71 : ∃ c, Tryz.f71.body = some c ∧ resCode Tryz.prog 8 c = some r71 := ⟨_, rfl, by kernel_rfl⟩
theorem rr71 : resRes Tryz.prog Tryz.f71.results.toList = some [.cell 2 true 4] := by kernel_rfl
theorem fok71 : FOk Tryz.prog 71 ⟨r71, 8, [.cell 2 true 4]⟩ := by
  obtain ⟨c, h1, h2⟩ := res71
  exact ⟨by kernel_rfl, _, c, Tryz.func71, h1, Tryz.ntmps71, h2, rr71⟩
def r61l0 : RCode :=
  (.seq (.seq (.region [
    ⟨(some 12), none, .read, .load false 1 (.tmp 2)⟩,
    ⟨(some 13), none, .read, .load false 1 (.tmp 1)⟩,
    ⟨(some 14), none, .pure, .nilCheck (.tmp 13)⟩,
    ⟨(some 15), none, .pure, .fieldAddr 8 (.tmp 14)⟩,
    ⟨(some 16), none, .read, .load false 1 (.tmp 15)⟩,
    ⟨(some 17), none, .pure, .bin .gtr (.tmp 12) (.tmp 16)⟩])
  (.cond (.tmp 17)
   .skip
   (.exit 0)))
  (.seq (.block 1
   (.seq (.region [
     ⟨(some 21), none, .read, .load false 1 (.tmp 1)⟩,
     ⟨(some 22), none, .pure, .nilCheck (.tmp 21)⟩,
     ⟨(some 23), none, .pure, .fieldAddr 5 (.tmp 22)⟩,
     ⟨(some 24), none, .read, .load false 1 (.tmp 23)⟩,
     ⟨(some 25), none, .read, .load false 1 (.tmp 2)⟩,
     ⟨(some 26), none, .act, .call 36 [(.tmp 24), (.tmp 25)]⟩,
     ⟨(some 20), none, .pure, .mv (.tmp 26)⟩,
     ⟨(some 27), none, .pure, .extract (.tmp 20) 0⟩,
     ⟨(some 28), none, .pure, .extract (.tmp 20) 1⟩,
     ⟨(some 3), none, .pure, .mv (.tmp 27)⟩,
     ⟨(some 4), none, .pure, .mv (.tmp 28)⟩])
   (.seq (.seq (.region [
     ⟨(some 29), none, .act, .mv (.tmp 3)⟩,
     ⟨(some 30), none, .act, .load false 1 (.tmp 1)⟩,
     ⟨(some 31), none, .act, .nilCheck (.tmp 30)⟩,
     ⟨(some 32), none, .act, .fieldAddr 1 (.tmp 31)⟩,
     ⟨(some 33), none, .act, .fieldAddr 0 (.tmp 32)⟩,
     ⟨(some 34), none, .act, .load false 1 (.tmp 33)⟩,
     ⟨(some 35), none, .act, .eq true .int (.tmp 29) (.tmp 34)⟩])
   (.cond (.tmp 35)
    (.exit 1)
    .skip))
   (.seq (.region [
     ⟨(some 36), none, .act, .load false 1 (.tmp 1)⟩,
     ⟨(some 37), none, .act, .makeFunc (.func 75) [] [(.tmp 1), (.tmp 2)]⟩,
     ⟨(some 38), none, .act, .call 54 [(.tmp 36), (.tmp 37)]⟩])
   (.cond (.tmp 38)
    (.seq (.region [
      ⟨(some 39), none, .act, .load false 1 (.tmp 1)⟩,
      ⟨(some 40), none, .act, .load false 1 (.tmp 2)⟩,
      ⟨(some 41), none, .act, .nilCheck (.tmp 39)⟩,
      ⟨(some 42), none, .act, .fieldAddr 8 (.tmp 41)⟩,
      ⟨none, none, .act, .store 1 (.tmp 42) (.tmp 40)⟩])
    (.exit 0))
    .skip)))))
  (.seq (.seq (.region [
    ⟨(some 43), none, .act, .load false 1 (.tmp 2)⟩])
  (.region [
    ⟨(some 2), none, .act, .alloc [(.int .u64 0)]⟩,
    ⟨none, none, .act, .store 1 (.tmp 2) (.tmp 43)⟩]))
  (.region [
    ⟨(some 18), none, .act, .load false 1 (.tmp 2)⟩,
    ⟨(some 19), none, .act, .bin .sub (.tmp 18) (.const (.int .u64 1))⟩,
    ⟨none, none, .act, .store 1 (.tmp 2) (.tmp 19)⟩]))))
/-- (*plenum/raft.Node).agree -/
def r61 : RCode :=
  (.seq (.region [
    ⟨(some 1), none, .act, .box (.tmp 0)⟩])
  (.seq .skip
  (.seq (.seq (.region [
    ⟨(some 7), none, .act, .load false 1 (.tmp 1)⟩,
    ⟨(some 8), none, .act, .nilCheck (.tmp 7)⟩,
    ⟨(some 9), none, .act, .fieldAddr 5 (.tmp 8)⟩,
    ⟨(some 10), none, .act, .load false 1 (.tmp 9)⟩,
    ⟨(some 11), none, .act, .call 56 [(.tmp 10)]⟩,
    ⟨(some 2), none, .act, .alloc [(.int .u64 0)]⟩,
    ⟨none, none, .act, .store 1 (.tmp 2) (.tmp 11)⟩])
  (.block 0
   (.loop r61l0)))
  (.seq (.region [
    ⟨(some 45), none, .act, .load false 1 (.tmp 1)⟩,
    ⟨(some 46), none, .act, .nilCheck (.tmp 45)⟩,
    ⟨(some 47), none, .act, .fieldAddr 5 (.tmp 46)⟩,
    ⟨(some 48), none, .act, .load false 1 (.tmp 47)⟩,
    ⟨(some 49), none, .act, .call 35 [(.tmp 48)]⟩,
    ⟨(some 44), none, .act, .mv (.tmp 49)⟩,
    ⟨(some 50), none, .act, .extract (.tmp 44) 0⟩,
    ⟨(some 51), none, .act, .extract (.tmp 44) 1⟩,
    ⟨(some 5), none, .act, .mv (.tmp 50)⟩,
    ⟨(some 6), none, .act, .mv (.tmp 51)⟩])
  (.seq (.region [
    ⟨(some 52), none, .act, .mv (.tmp 6)⟩,
    ⟨(some 53), none, .act, .load false 1 (.tmp 1)⟩,
    ⟨(some 54), none, .act, .nilCheck (.tmp 53)⟩,
    ⟨(some 55), none, .act, .fieldAddr 8 (.tmp 54)⟩,
    ⟨(some 56), none, .act, .load false 1 (.tmp 55)⟩,
    ⟨(some 57), none, .act, .bin .leq (.tmp 52) (.tmp 56)⟩,
    ⟨(some 58), none, .act, .mv (.tmp 57)⟩,
    ⟨(some 59), (some (58, true)), .act, .mv (.tmp 5)⟩,
    ⟨(some 60), (some (58, true)), .act, .load false 1 (.tmp 1)⟩,
    ⟨(some 61), (some (58, true)), .act, .nilCheck (.tmp 60)⟩,
    ⟨(some 62), (some (58, true)), .act, .fieldAddr 0 (.tmp 61)⟩,
    ⟨(some 63), (some (58, true)), .act, .load false 1 (.tmp 62)⟩,
    ⟨(some 64), (some (58, true)), .act, .call 51 [(.tmp 59), (.tmp 63)]⟩,
    ⟨(some 65), (some (58, true)), .act, .un .not (.tmp 64)⟩,
    ⟨(some 66), none, .act, .pick (.tmp 58) (.tmp 65) (.const (.bool false))⟩])
  (.cond (.tmp 66)
   (.region [
     ⟨(some 67), none, .act, .load false 1 (.tmp 1)⟩,
     ⟨(some 68), none, .act, .call 24 [(.tmp 67), (.const (.int .u64 0))]⟩])
   .skip))))))
theorem res61 : ∃ c, Tryz.f61.body = some c ∧ resCode Tryz.prog 69 c = some r61 := ⟨_, rfl, by kernel_rfl⟩
theorem rr61 : resRes Tryz.prog Tryz.f61.results.toList = some [] := by kernel_rfl
theorem fok61 : FOk Tryz.prog 61 ⟨r61, 69, []⟩ := by
  obtain ⟨c, h1, h2⟩ := res61
  exact ⟨by kernel_rfl, _, c, Tryz.func61, h1, Tryz.ntmps61, h2, rr61⟩
/-- (*plenum/rlog.Log).Term -/
def r36 : RCode :=
  (.seq (.region [
    ⟨(some 4), none, .act, .mv (.const (.int .u64 0))⟩,
    ⟨(some 5), none, .act, .mv (.const (.bool false))⟩])
  (.seq (.block 0
   (.seq (.region [
     ⟨(some 7), none, .act, .mv (.tmp 0)⟩,
     ⟨(some 8), none, .act, .eq false .ptr (.tmp 7) (.const (.pointer none))⟩,
     ⟨(some 6), none, .act, .mv (.tmp 8)⟩])
   (.cond (.tmp 6)
    (.seq (.region [
      ⟨(some 9), none, .act, .mv (.tmp 1)⟩,
      ⟨(some 10), none, .act, .eq false .int (.tmp 9) (.const (.int .u64 0))⟩,
      ⟨(some 4), none, .act, .mv (.const (.int .u64 0))⟩,
      ⟨(some 5), none, .act, .mv (.tmp 10)⟩])
    .ret)
    (.seq (.region [
      ⟨(some 12), none, .act, .mv (.tmp 1)⟩,
      ⟨(some 13), none, .act, .mv (.tmp 0)⟩,
      ⟨(some 14), none, .act, .nilCheck (.tmp 13)⟩,
      ⟨(some 15), none, .act, .fieldAddr 0 (.tmp 14)⟩,
      ⟨(some 16), none, .act, .fieldAddr 0 (.tmp 15)⟩,
      ⟨(some 17), none, .act, .load false 1 (.tmp 16)⟩,
      ⟨(some 18), none, .act, .eq false .int (.tmp 12) (.tmp 17)⟩,
      ⟨(some 11), none, .act, .mv (.tmp 18)⟩])
    (.cond (.tmp 11)
     (.seq (.region [
       ⟨(some 19), none, .act, .mv (.tmp 0)⟩,
       ⟨(some 20), none, .act, .nilCheck (.tmp 19)⟩,
       ⟨(some 21), none, .act, .fieldAddr 0 (.tmp 20)⟩,
       ⟨(some 22), none, .act, .fieldAddr 1 (.tmp 21)⟩,
       ⟨(some 23), none, .act, .load false 1 (.tmp 22)⟩,
       ⟨(some 4), none, .act, .mv (.tmp 23)⟩,
       ⟨(some 5), none, .act, .mv (.const (.bool true))⟩])
     .ret)
     (.seq (.region [
       ⟨(some 25), none, .act, .mv (.tmp 1)⟩,
       ⟨(some 26), none, .act, .mv (.tmp 0)⟩,
       ⟨(some 27), none, .act, .nilCheck (.tmp 26)⟩,
       ⟨(some 28), none, .act, .fieldAddr 0 (.tmp 27)⟩,
       ⟨(some 29), none, .act, .fieldAddr 0 (.tmp 28)⟩,
       ⟨(some 30), none, .act, .load false 1 (.tmp 29)⟩,
       ⟨(some 31), none, .act, .bin .lss (.tmp 25) (.tmp 30)⟩,
       ⟨(some 32), none, .act, .mv (.tmp 31)⟩,
       ⟨(some 33), (some (32, false)), .act, .mv (.tmp 1)⟩,
       ⟨(some 34), (some (32, false)), .act, .mv (.tmp 0)⟩,
       ⟨(some 35), (some (32, false)), .act, .call 56 [(.tmp 34)]⟩,
       ⟨(some 36), (some (32, false)), .act, .bin .gtr (.tmp 33) (.tmp 35)⟩,
       ⟨(some 37), none, .act, .pick (.tmp 32) (.const (.bool true)) (.tmp 36)⟩,
       ⟨(some 24), none, .act, .mv (.tmp 37)⟩])
     (.cond (.tmp 24)
      (.seq (.region [
        ⟨(some 4), none, .act, .mv (.const (.int .u64 0))⟩,
        ⟨(some 5), none, .act, .mv (.const (.bool false))⟩])
      .ret)
      .skip)))))))
  (.seq (.region [
    ⟨(some 38), none, .pure, .mv (.tmp 0)⟩,
    ⟨(some 39), none, .pure, .nilCheck (.tmp 38)⟩,
    ⟨(some 40), none, .pure, .fieldAddr 4 (.tmp 39)⟩,
    ⟨(some 41), none, .read, .load false 1 (.tmp 40)⟩,
    ⟨(some 42), none, .pure, .mv (.tmp 1)⟩,
    ⟨(some 43), none, .pure, .mv (.tmp 0)⟩,
    ⟨(some 44), none, .pure, .nilCheck (.tmp 43)⟩,
    ⟨(some 45), none, .pure, .fieldAddr 0 (.tmp 44)⟩,
    ⟨(some 46), none, .pure, .fieldAddr 0 (.tmp 45)⟩,
    ⟨(some 47), none, .read, .load false 1 (.tmp 46)⟩,
    ⟨(some 48), none, .pure, .bin .sub (.tmp 42) (.tmp 47)⟩,
    ⟨(some 49), none, .pure, .bin .sub (.tmp 48) (.const (.int .u64 1))⟩,
    ⟨(some 50), none, .pure, .indexAddr 4 (.tmp 41) (.tmp 49)⟩,
    ⟨(some 51), none, .pure, .fieldAddr 1 (.tmp 50)⟩,
    ⟨(some 52), none, .read, .load false 1 (.tmp 51)⟩,
    ⟨(some 4), none, .pure, .mv (.tmp 52)⟩,
    ⟨(some 5), none, .pure, .mv (.const (.bool true))⟩])
  .ret)))
theorem res36 : ∃ c, Tryz.f36.body = some c ∧ resCode Tryz.prog 53 c = some r36 := ⟨_, rfl, by kernel_rfl⟩
theorem rr36 : resRes Tryz.prog Tryz.f36.results.toList = some [.tmp 4, .tmp 5] := by kernel_rfl
theorem fok36 : FOk Tryz.prog 36 ⟨r36, 53, [.tmp 4, .tmp 5]⟩ := by
  obtain ⟨c, h1, h2⟩ := res36
  exact ⟨by kernel_rfl, _, c, Tryz.func36, h1, Tryz.ntmps36, h2, rr36⟩
/-- (*plenum/raft.Node).agree$1 -/
def r75 : RCode :=
  (.seq (.region [
    ⟨(some 4), none, .act, .mv (.const (.bool false))⟩])
  (.seq (.region [
    ⟨(some 5), none, .read, .load false 1 (.tmp 1)⟩,
    ⟨(some 6), none, .pure, .mv (.tmp 0)⟩,
    ⟨(some 7), none, .read, .call 76 [(.tmp 5), (.tmp 6)]⟩,
    ⟨(some 8), none, .read, .load false 1 (.tmp 2)⟩,
    ⟨(some 9), none, .pure, .bin .geq (.tmp 7) (.tmp 8)⟩,
    ⟨(some 4), none, .pure, .mv (.tmp 9)⟩])
  .ret))
theorem res75 : ∃ c, Tryz.f75.body = some c ∧ resCode Tryz.prog 10 c = some r75 := ⟨_, rfl, by kernel_rfl⟩
theorem rr75 : resRes Tryz.prog Tryz.f75.results.toList = some [.tmp 4] := by kernel_rfl
theorem fok75 : FOk Tryz.prog 75 ⟨r75, 10, [.tmp 4]⟩ := by
  obtain ⟨c, h1, h2⟩ := res75
  exact ⟨by kernel_rfl, _, c, Tryz.func75, h1, Tryz.ntmps75, h2, rr75⟩
/-- (*plenum/raft.Node).matched -/
def r76 : RCode :=
  (.seq (.region [
    ⟨(some 4), none, .act, .mv (.const (.int .u64 0))⟩])
  (.seq (.seq (.region [
    ⟨(some 5), none, .act, .mv (.tmp 1)⟩,
    ⟨(some 6), none, .act, .mv (.tmp 0)⟩,
    ⟨(some 7), none, .act, .nilCheck (.tmp 6)⟩,
    ⟨(some 8), none, .act, .fieldAddr 0 (.tmp 7)⟩,
    ⟨(some 9), none, .act, .load false 1 (.tmp 8)⟩,
    ⟨(some 10), none, .act, .eq false .int (.tmp 5) (.tmp 9)⟩])
  (.cond (.tmp 10)
   (.seq (.region [
     ⟨(some 11), none, .act, .mv (.tmp 0)⟩,
     ⟨(some 12), none, .act, .nilCheck (.tmp 11)⟩,
     ⟨(some 13), none, .act, .fieldAddr 5 (.tmp 12)⟩,
     ⟨(some 14), none, .act, .load false 1 (.tmp 13)⟩,
     ⟨(some 15), none, .act, .call 56 [(.tmp 14)]⟩,
     ⟨(some 4), none, .act, .mv (.tmp 15)⟩])
   .ret)
   .skip))
  (.seq (.region [
    ⟨(some 16), none, .act, .mv (.tmp 0)⟩,
    ⟨(some 17), none, .act, .nilCheck (.tmp 16)⟩,
    ⟨(some 18), none, .act, .fieldAddr 12 (.tmp 17)⟩,
    ⟨(some 19), none, .act, .load false 1 (.tmp 18)⟩,
    ⟨(some 20), none, .act, .mv (.tmp 1)⟩,
    ⟨(some 21), none, .act, .lookup 22 (.agg #[(.int .u64 0), (.int .u64 0)]) (.tmp 19) (.tmp 20) false⟩,
    ⟨(some 22), none, .act, .field false 1 1 (.tmp 21)⟩,
    ⟨(some 4), none, .act, .mv (.tmp 22)⟩])
  .ret)))
theorem res76 : ∃ c, Tryz.f76.body = some c ∧ resCode Tryz.prog 23 c = some r76 := ⟨_, rfl, by kernel_rfl⟩
theorem rr76 : resRes Tryz.prog Tryz.f76.results.toList = some [.tmp 4] := by kernel_rfl
theorem fok76 : FOk Tryz.prog 76 ⟨r76, 23, [.tmp 4]⟩ := by
  obtain ⟨c, h1, h2⟩ := res76
  exact ⟨by kernel_rfl, _, c, Tryz.func76, h1, Tryz.ntmps76, h2, rr76⟩
def r21l0 : RCode :=
  (.seq (.region [
    ⟨(some 8), none, .act, .bin .lss (.tmp 7) (.tmp 6)⟩])
  (.seq (.cond (.tmp 8)
   .skip
   (.exit 0))
  (.seq (.block 1
   (.seq (.region [
     ⟨(some 9), none, .act, .indexAddr 1 (.tmp 5) (.tmp 7)⟩,
     ⟨(some 10), none, .act, .load false 1 (.tmp 9)⟩,
     ⟨(some 3), none, .act, .mv (.tmp 10)⟩])
   (.seq (.seq (.region [
     ⟨(some 11), none, .act, .mv (.tmp 3)⟩,
     ⟨(some 12), none, .act, .mv (.tmp 0)⟩,
     ⟨(some 13), none, .act, .nilCheck (.tmp 12)⟩,
     ⟨(some 14), none, .act, .fieldAddr 0 (.tmp 13)⟩,
     ⟨(some 15), none, .act, .load false 1 (.tmp 14)⟩,
     ⟨(some 16), none, .act, .eq false .int (.tmp 11) (.tmp 15)⟩])
   (.cond (.tmp 16)
    (.exit 1)
    .skip))
   (.region [
     ⟨(some 17), none, .act, .mv (.tmp 0)⟩,
     ⟨(some 18), none, .act, .mv (.tmp 3)⟩,
     ⟨(some 19), none, .act, .call 50 [(.tmp 17), (.tmp 18)]⟩]))))
  (.region [
    ⟨(some 20), none, .act, .bin .add (.tmp 7) (.const (.int .i64 1))⟩,
    ⟨(some 7), none, .act, .mv (.tmp 20)⟩]))))
/-- (*plenum/raft.Node).appends -/
def r21 : RCode :=
  (.seq .skip
  (.seq (.region [
    ⟨(some 4), none, .act, .mv (.tmp 0)⟩,
    ⟨(some 5), none, .act, .call 49 [(.tmp 4)]⟩,
    ⟨(some 6), none, .act, .len (.tmp 5)⟩,
    ⟨(some 7), none, .act, .mv (.const (.int .i64 0))⟩])
  (.block 0
   (.loop r21l0))))
theorem res21 : ∃ c, Tryz.f21.body = some c ∧ resCode Tryz.prog 21 c = some r21 := ⟨_, rfl, by kernel_rfl⟩
theorem rr21 : resRes Tryz.prog Tryz.f21.results.toList = some [] := by kernel_rfl
theorem fok21 : FOk Tryz.prog 21 ⟨r21, 21, []⟩ := by
  obtain ⟨c, h1, h2⟩ := res21
  exact ⟨by kernel_rfl, _, c, Tryz.func21, h1, Tryz.ntmps21, h2, rr21⟩
/-- (*plenum/raft.Node).State -/
def r11 : RCode :=
  (.seq (.region [
    ⟨(some 2), none, .act, .mv (.const (.int .i64 0))⟩,
    ⟨(some 3), none, .act, .mv (.const (.int .u64 0))⟩,
    ⟨(some 4), none, .act, .mv (.const (.int .u64 0))⟩,
    ⟨(some 5), none, .act, .mv (.const (.int .u64 0))⟩])
  (.seq (.seq (.region [
    ⟨(some 6), none, .act, .mv (.tmp 0)⟩,
    ⟨(some 7), none, .act, .call 20 [(.tmp 6)]⟩,
    ⟨(some 8), none, .act, .un .not (.tmp 7)⟩])
  (.cond (.tmp 8)
   (.seq (.region [
     ⟨(some 2), none, .act, .mv (.const (.int .i64 0))⟩,
     ⟨(some 3), none, .act, .mv (.const (.int .u64 0))⟩,
     ⟨(some 4), none, .act, .mv (.const (.int .u64 0))⟩,
     ⟨(some 5), none, .act, .mv (.const (.int .u64 0))⟩])
   .ret)
   .skip))
  (.seq (.region [
    ⟨(some 9), none, .pure, .mv (.tmp 0)⟩,
    ⟨(some 10), none, .pure, .nilCheck (.tmp 9)⟩,
    ⟨(some 11), none, .pure, .fieldAddr 6 (.tmp 10)⟩,
    ⟨(some 12), none, .read, .load false 1 (.tmp 11)⟩,
    ⟨(some 13), none, .pure, .mv (.tmp 0)⟩,
    ⟨(some 14), none, .pure, .nilCheck (.tmp 13)⟩,
    ⟨(some 15), none, .pure, .fieldAddr 1 (.tmp 14)⟩,
    ⟨(some 16), none, .pure, .fieldAddr 0 (.tmp 15)⟩,
    ⟨(some 17), none, .read, .load false 1 (.tmp 16)⟩,
    ⟨(some 18), none, .pure, .mv (.tmp 0)⟩,
    ⟨(some 19), none, .pure, .nilCheck (.tmp 18)⟩,
    ⟨(some 20), none, .pure, .fieldAddr 7 (.tmp 19)⟩,
    ⟨(some 21), none, .read, .load false 1 (.tmp 20)⟩,
    ⟨(some 22), none, .pure, .mv (.tmp 0)⟩,
    ⟨(some 23), none, .pure, .nilCheck (.tmp 22)⟩,
    ⟨(some 24), none, .pure, .fieldAddr 8 (.tmp 23)⟩,
    ⟨(some 25), none, .read, .load false 1 (.tmp 24)⟩,
    ⟨(some 2), none, .pure, .mv (.tmp 12)⟩,
    ⟨(some 3), none, .pure, .mv (.tmp 17)⟩,
    ⟨(some 4), none, .pure, .mv (.tmp 21)⟩,
    ⟨(some 5), none, .pure, .mv (.tmp 25)⟩])
  .ret)))
theorem res11 : ∃ c, Tryz.f11.body = some c ∧ resCode Tryz.prog 26 c = some r11 := ⟨_, rfl, by kernel_rfl⟩
theorem rr11 : resRes Tryz.prog Tryz.f11.results.toList = some [.tmp 2, .tmp 3, .tmp 4, .tmp 5] := by kernel_rfl
theorem fok11 : FOk Tryz.prog 11 ⟨r11, 26, [.tmp 2, .tmp 3, .tmp 4, .tmp 5]⟩ := by
  obtain ⟨c, h1, h2⟩ := res11
  exact ⟨by kernel_rfl, _, c, Tryz.func11, h1, Tryz.ntmps11, h2, rr11⟩
def tabL : List (Nat × RF) :=
  [(4, ⟨r4, 40, [.tmp 0]⟩),
   (17, ⟨r17, 7, [.tmp 2]⟩),
   (48, ⟨r48, 9, [.cell 2 true 4]⟩),
   (68, ⟨r68, 12, [.cell 2 true 4]⟩),
   (78, ⟨r78, 8, [.tmp 2]⟩),
   (33, ⟨r33, 8, [.tmp 2]⟩),
   (16, ⟨r16, 23, [.tmp 6]⟩),
   (39, ⟨r39, 11, [.cell 2 true 4]⟩),
   (6, ⟨r6, 40, []⟩),
   (20, ⟨r20, 12, [.tmp 2]⟩),
   (22, ⟨r22, 9, [.tmp 4]⟩),
   (49, ⟨r49, 14, [.tmp 2]⟩),
   (35, ⟨r35, 15, [.tmp 2, .tmp 3]⟩),
   (62, ⟨r62, 58, [.tmp 4, .tmp 5]⟩),
   (51, ⟨r51, 9, [.tmp 4]⟩),
   (73, ⟨r73, 19, [.tmp 4]⟩),
   (23, ⟨r23, 62, []⟩),
   (27, ⟨r27, 45, [.tmp 2]⟩),
   (54, ⟨r54, 28, [.tmp 4]⟩),
   (55, ⟨r55, 10, [.tmp 3]⟩),
   (56, ⟨r56, 17, [.tmp 2]⟩),
   (32, ⟨r32, 69, [.tmp 6]⟩),
   (59, ⟨r59, 86, [.tmp 4]⟩),
   (74, ⟨r74, 23, [.tmp 2]⟩),
   (45, ⟨r45, 11, [.tmp 2]⟩),
   (71, ⟨r71, 8, [.cell 2 true 4]⟩),
   (61, ⟨r61, 69, []⟩),
   (36, ⟨r36, 53, [.tmp 4, .tmp 5]⟩),
   (75, ⟨r75, 10, [.tmp 4]⟩),
   (76, ⟨r76, 23, [.tmp 4]⟩),
   (21, ⟨r21, 21, []⟩),
   (11, ⟨r11, 26, [.tmp 2, .tmp 3, .tmp 4, .tmp 5]⟩)]
theorem tabL_ok : ∀ p ∈ tabL, FOk Tryz.prog p.1 p.2 :=
  List.forall_mem_cons.2 ⟨fok4, List.forall_mem_cons.2 ⟨fok17, List.forall_mem_cons.2 ⟨fok48, List.forall_mem_cons.2 ⟨fok68, List.forall_mem_cons.2 ⟨fok78, List.forall_mem_cons.2 ⟨fok33, List.forall_mem_cons.2 ⟨fok16, List.forall_mem_cons.2 ⟨fok39, List.forall_mem_cons.2 ⟨fok6, List.forall_mem_cons.2 ⟨fok20, List.forall_mem_cons.2 ⟨fok22, List.forall_mem_cons.2 ⟨fok49, List.forall_mem_cons.2 ⟨fok35, List.forall_mem_cons.2 ⟨fok62, List.forall_mem_cons.2 ⟨fok51, List.forall_mem_cons.2 ⟨fok73, List.forall_mem_cons.2 ⟨fok23, List.forall_mem_cons.2 ⟨fok27, List.forall_mem_cons.2 ⟨fok54, List.forall_mem_cons.2 ⟨fok55, List.forall_mem_cons.2 ⟨fok56, List.forall_mem_cons.2 ⟨fok32, List.forall_mem_cons.2 ⟨fok59, List.forall_mem_cons.2 ⟨fok74, List.forall_mem_cons.2 ⟨fok45, List.forall_mem_cons.2 ⟨fok71, List.forall_mem_cons.2 ⟨fok61, List.forall_mem_cons.2 ⟨fok36, List.forall_mem_cons.2 ⟨fok75, List.forall_mem_cons.2 ⟨fok76, List.forall_mem_cons.2 ⟨fok21, List.forall_mem_cons.2 ⟨fok11, List.forall_mem_nil _⟩⟩⟩⟩⟩⟩⟩⟩⟩⟩⟩⟩⟩⟩⟩⟩⟩⟩⟩⟩⟩⟩⟩⟩⟩⟩⟩⟩⟩⟩⟩⟩
theorem tab_ok : TabOk Tryz.prog (lookT tabL) := TabOk.of_list tabL_ok
end Go.Proofs.YtcghjnkepooofaaGreat
