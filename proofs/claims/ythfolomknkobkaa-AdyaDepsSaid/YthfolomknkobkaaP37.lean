/-
  AdyaDeps answers true for every history
-/
import Derived.Test.YthfolomknkobkaaP24
import Derived.Test.YthfolomknkobkaaP25
import Derived.Test.YthfolomknkobkaaRows
import Derived.Test.YthfolomknkobkaaP28
import Derived.Test.YthfolomknkobkaaP27
import Derived.Test.YthfolomknkobkaaP36
import Derived.Test.YthfolomknkobkaaP29
import Derived.Test.YthfolomknkobkaaP30
import Derived.Test.YthfolomknkobkaaP26
set_option linter.unusedVariables false
set_option linter.unusedSimpArgs false
namespace Go.Proofs.Ythfolomknkobkaa
open Go.Av
def r9l0 : RCode :=
  (.seq (.region [
    ⟨(some 21), none, .act, .bin .lss (.tmp 20) (.tmp 19)⟩])
  (.seq (.cond (.tmp 21)
   .skip
   (.exit 0))
  (.seq (.block 1
   (.seq (.region [
     ⟨(some 22), none, .act, .indexAddr 8 (.tmp 18) (.tmp 20)⟩,
     ⟨(some 23), none, .act, .load true 8 (.tmp 22)⟩,
     ⟨(some 6), none, .act, .alloc [(.int .u64 0), (.int .i64 0), (.int .i64 0), (.int .u64 0), (.int .u64 0), (.slice none 0 0), (.slice none 0 0), (.slice none 0 0)]⟩,
     ⟨none, none, .act, .store 8 (.tmp 6) (.tmp 23)⟩])
   (.seq (.seq (.region [
     ⟨(some 24), none, .act, .fieldAddr 2 (.tmp 6)⟩,
     ⟨(some 25), none, .act, .load false 1 (.tmp 24)⟩,
     ⟨(some 26), none, .act, .eq true .int (.tmp 25) (.const (.int .i64 1))⟩])
   (.cond (.tmp 26)
    (.exit 1)
    .skip))
   (.seq (.region [
     ⟨(some 27), none, .act, .mv (.tmp 3)⟩,
     ⟨(some 28), none, .act, .mv (.tmp 4)⟩,
     ⟨(some 29), none, .act, .load true 8 (.tmp 6)⟩,
     ⟨(some 30), none, .act, .call 20 [(.tmp 28), (.tmp 29)]⟩,
     ⟨(some 31), none, .act, .append 2 16 [(.int .i64 0), (.int .u64 0)] (.tmp 27) (.tmp 30)⟩,
     ⟨(some 3), none, .act, .mv (.tmp 31)⟩])
   (.seq (.seq (.region [
     ⟨(some 32), none, .act, .mv (.tmp 4)⟩,
     ⟨(some 33), none, .act, .load true 8 (.tmp 6)⟩,
     ⟨(some 34), none, .act, .call 21 [(.tmp 32), (.tmp 33)]⟩])
   (.cond (.tmp 34)
    (.region [
      ⟨(some 35), none, .act, .mv (.tmp 3)⟩,
      ⟨(some 36), none, .act, .fieldAddr 0 (.tmp 6)⟩,
      ⟨(some 37), none, .act, .load false 1 (.tmp 36)⟩,
      ⟨(some 38), none, .act, .build [(.int .i64 0), (.int .u64 0)] [(0, 1, (.const (.int .i64 5))), (1, 1, (.tmp 37))]⟩,
      ⟨(some 39), none, .act, .buildSl 2 [(.int .i64 0), (.int .u64 0)] 1 [(0, (.tmp 38))]⟩,
      ⟨(some 40), none, .act, .append 2 16 [(.int .i64 0), (.int .u64 0)] (.tmp 35) (.tmp 39)⟩,
      ⟨(some 3), none, .act, .mv (.tmp 40)⟩])
    .skip))
   (.seq (.seq (.region [
     ⟨(some 41), none, .act, .mv (.tmp 4)⟩,
     ⟨(some 42), none, .act, .load true 8 (.tmp 6)⟩,
     ⟨(some 43), none, .act, .call 22 [(.tmp 41), (.tmp 42)]⟩,
     ⟨(some 44), none, .act, .un .not (.tmp 43)⟩])
   (.cond (.tmp 44)
    (.region [
      ⟨(some 45), none, .act, .mv (.tmp 3)⟩,
      ⟨(some 46), none, .act, .fieldAddr 0 (.tmp 6)⟩,
      ⟨(some 47), none, .act, .load false 1 (.tmp 46)⟩,
      ⟨(some 48), none, .act, .build [(.int .i64 0), (.int .u64 0)] [(0, 1, (.const (.int .i64 6))), (1, 1, (.tmp 47))]⟩,
      ⟨(some 49), none, .act, .buildSl 2 [(.int .i64 0), (.int .u64 0)] 1 [(0, (.tmp 48))]⟩,
      ⟨(some 50), none, .act, .append 2 16 [(.int .i64 0), (.int .u64 0)] (.tmp 45) (.tmp 49)⟩,
      ⟨(some 3), none, .act, .mv (.tmp 50)⟩])
    .skip))
   (.seq (.region [
     ⟨(some 51), none, .act, .mv (.tmp 4)⟩,
     ⟨(some 52), none, .act, .load true 8 (.tmp 6)⟩,
     ⟨(some 53), none, .act, .call 23 [(.tmp 51), (.tmp 52)]⟩,
     ⟨(some 54), none, .act, .un .not (.tmp 53)⟩])
   (.cond (.tmp 54)
    (.region [
      ⟨(some 55), none, .act, .mv (.tmp 3)⟩,
      ⟨(some 56), none, .act, .fieldAddr 0 (.tmp 6)⟩,
      ⟨(some 57), none, .act, .load false 1 (.tmp 56)⟩,
      ⟨(some 58), none, .act, .build [(.int .i64 0), (.int .u64 0)] [(0, 1, (.const (.int .i64 7))), (1, 1, (.tmp 57))]⟩,
      ⟨(some 59), none, .act, .buildSl 2 [(.int .i64 0), (.int .u64 0)] 1 [(0, (.tmp 58))]⟩,
      ⟨(some 60), none, .act, .append 2 16 [(.int .i64 0), (.int .u64 0)] (.tmp 55) (.tmp 59)⟩,
      ⟨(some 3), none, .act, .mv (.tmp 60)⟩])
    .skip))))))))
  (.region [
    ⟨(some 61), none, .act, .bin .add (.tmp 20) (.const (.int .i64 1))⟩,
    ⟨(some 20), none, .act, .mv (.tmp 61)⟩]))))
def r9 : RCode :=
  (.seq (.region [
    ⟨(some 2), none, .act, .mv (.const (.slice none 0 0))⟩])
  (.seq (.region [
    ⟨(some 3), none, .act, .mv (.const (.slice none 0 0))⟩])
  (.seq (.seq (.region [
    ⟨(some 9), none, .act, .mv (.tmp 0)⟩,
    ⟨(some 10), none, .act, .call 18 [(.tmp 9)]⟩,
    ⟨(some 11), none, .act, .un .not (.tmp 10)⟩])
  (.cond (.tmp 11)
   (.region [
     ⟨(some 12), none, .act, .mv (.tmp 3)⟩,
     ⟨(some 13), none, .act, .build [(.int .i64 0), (.int .u64 0)] [(0, 1, (.const (.int .i64 1)))]⟩,
     ⟨(some 14), none, .act, .buildSl 2 [(.int .i64 0), (.int .u64 0)] 1 [(0, (.tmp 13))]⟩,
     ⟨(some 15), none, .act, .append 2 16 [(.int .i64 0), (.int .u64 0)] (.tmp 12) (.tmp 14)⟩,
     ⟨(some 3), none, .act, .mv (.tmp 15)⟩])
   .skip))
  (.seq (.region [
    ⟨(some 16), none, .act, .mv (.tmp 0)⟩,
    ⟨(some 17), none, .act, .call 19 [(.tmp 16)]⟩,
    ⟨(some 4), none, .act, .mv (.tmp 17)⟩])
  (.seq (.seq (.region [
    ⟨(some 18), none, .act, .mv (.tmp 4)⟩,
    ⟨(some 19), none, .act, .len (.tmp 18)⟩,
    ⟨(some 20), none, .act, .mv (.const (.int .i64 0))⟩])
  (.block 0
   (.loop r9l0)))
  (.seq (.seq (.region [
    ⟨(some 63), none, .act, .mv (.tmp 4)⟩,
    ⟨(some 64), none, .act, .call 24 [(.tmp 63)]⟩,
    ⟨(some 62), none, .act, .mv (.tmp 64)⟩,
    ⟨(some 65), none, .act, .extract (.tmp 62) 0⟩,
    ⟨(some 66), none, .act, .extract (.tmp 62) 1⟩,
    ⟨(some 7), none, .act, .mv (.tmp 65)⟩,
    ⟨(some 8), none, .act, .mv (.tmp 66)⟩])
  (.seq (.region [
    ⟨(some 67), none, .act, .mv (.tmp 8)⟩])
  (.cond (.tmp 67)
   (.region [
     ⟨(some 68), none, .act, .mv (.tmp 3)⟩,
     ⟨(some 69), none, .act, .mv (.tmp 7)⟩,
     ⟨(some 70), none, .act, .build [(.int .i64 0), (.int .u64 0)] [(0, 1, (.const (.int .i64 4))), (1, 1, (.tmp 69))]⟩,
     ⟨(some 71), none, .act, .buildSl 2 [(.int .i64 0), (.int .u64 0)] 1 [(0, (.tmp 70))]⟩,
     ⟨(some 72), none, .act, .append 2 16 [(.int .i64 0), (.int .u64 0)] (.tmp 68) (.tmp 71)⟩,
     ⟨(some 3), none, .act, .mv (.tmp 72)⟩])
   .skip)))
  (.seq (.region [
    ⟨(some 73), none, .act, .mv (.tmp 3)⟩,
    ⟨(some 2), none, .act, .mv (.tmp 73)⟩])
  .ret)))))))
theorem res9 : ∃ c, Try.f9.body = some c ∧ resCode Try.prog 74 c = some r9 := ⟨_, rfl, by kernel_rfl⟩
theorem rr9 : resRes Try.prog Try.f9.results.toList = some [.tmp 2] := by kernel_rfl
theorem fok9 : FOk Try.prog 9 ⟨r9, 74, [.tmp 2]⟩ := by
  obtain ⟨c, h1, h2⟩ := res9
  exact ⟨by kernel_rfl, _, c, Try.func9, h1, Try.ntmps9, ⟨_, h2⟩, rr9⟩
def r18l0 : RCode :=
  (.seq (.region [
    ⟨(some 13), none, .act, .bin .lss (.tmp 12) (.tmp 11)⟩])
  (.seq (.cond (.tmp 13)
   .skip
   (.exit 0))
  (.seq (.block 1
   (.seq (.region [
     ⟨(some 14), none, .act, .indexAddr 8 (.tmp 10) (.tmp 12)⟩,
     ⟨(some 15), none, .act, .load true 8 (.tmp 14)⟩,
     ⟨(some 6), none, .act, .alloc [(.int .i64 0), (.int .u64 0), (.int .i64 0), (.int .u64 0), (.slice none 0 0), (.slice none 0 0), (.slice none 0 0), (.slice none 0 0)]⟩,
     ⟨none, none, .act, .store 8 (.tmp 6) (.tmp 15)⟩])
   (.seq (.region [
     ⟨(some 16), none, .act, .mv (.tmp 3)⟩,
     ⟨(some 17), none, .act, .fieldAddr 1 (.tmp 6)⟩,
     ⟨(some 18), none, .act, .load false 1 (.tmp 17)⟩,
     ⟨(some 19), none, .act, .lookup 29 (.pointer none) (.tmp 16) (.tmp 18) false⟩,
     ⟨(some 7), none, .act, .mv (.tmp 19)⟩])
   (.seq (.seq (.region [
     ⟨(some 20), none, .act, .mv (.tmp 7)⟩,
     ⟨(some 21), none, .act, .eq false .ptr (.tmp 20) (.const (.pointer none))⟩])
   (.cond (.tmp 21)
    (.seq (.seq (.region [
      ⟨(some 22), none, .act, .fieldAddr 0 (.tmp 6)⟩,
      ⟨(some 23), none, .act, .load false 1 (.tmp 22)⟩,
      ⟨(some 24), none, .act, .eq true .int (.tmp 23) (.const (.int .i64 1))⟩])
    (.cond (.tmp 24)
     (.seq (.region [
       ⟨(some 2), none, .act, .mv (.const (.bool false))⟩])
     .ret)
     .skip))
    (.seq (.region [
      ⟨(some 25), none, .act, .mv (.tmp 3)⟩,
      ⟨(some 26), none, .act, .fieldAddr 1 (.tmp 6)⟩,
      ⟨(some 27), none, .act, .load false 1 (.tmp 26)⟩,
      ⟨(some 28), none, .act, .fieldAddr 2 (.tmp 6)⟩,
      ⟨(some 29), none, .act, .load false 1 (.tmp 28)⟩,
      ⟨(some 30), none, .act, .fieldAddr 3 (.tmp 6)⟩,
      ⟨(some 31), none, .act, .load false 1 (.tmp 30)⟩,
      ⟨(some 32), none, .act, .build [(.int .i64 0), (.int .u64 0), (.bool false)] [(0, 1, (.tmp 29)), (1, 1, (.tmp 31))]⟩,
      ⟨(some 33), none, .act, .box (.tmp 32)⟩,
      ⟨none, none, .act, .mapUpdate 29 (.tmp 25) (.tmp 27) (.tmp 33)⟩])
    (.exit 1)))
    .skip))
   (.seq (.seq (.region [
     ⟨(some 34), none, .pure, .fieldAddr 0 (.tmp 6)⟩,
     ⟨(some 35), none, .read, .load false 1 (.tmp 34)⟩,
     ⟨(some 36), none, .pure, .eq false .int (.tmp 35) (.const (.int .i64 1))⟩,
     ⟨(some 37), none, .pure, .mv (.tmp 36)⟩,
     ⟨(some 38), (some (37, false)), .pure, .mv (.tmp 7)⟩,
     ⟨(some 39), (some (37, false)), .pure, .nilCheck (.tmp 38)⟩,
     ⟨(some 40), (some (37, false)), .pure, .fieldAddr 2 (.tmp 39)⟩,
     ⟨(some 41), (some (37, false)), .read, .load false 1 (.tmp 40)⟩,
     ⟨(some 42), none, .pure, .pick (.tmp 37) (.const (.bool true)) (.tmp 41)⟩,
     ⟨(some 43), none, .pure, .mv (.tmp 42)⟩,
     ⟨(some 44), (some (43, false)), .pure, .mv (.tmp 7)⟩,
     ⟨(some 45), (some (43, false)), .pure, .nilCheck (.tmp 44)⟩,
     ⟨(some 46), (some (43, false)), .pure, .fieldAddr 0 (.tmp 45)⟩,
     ⟨(some 47), (some (43, false)), .read, .load false 1 (.tmp 46)⟩,
     ⟨(some 48), (some (43, false)), .pure, .fieldAddr 2 (.tmp 6)⟩,
     ⟨(some 49), (some (43, false)), .read, .load false 1 (.tmp 48)⟩,
     ⟨(some 50), (some (43, false)), .pure, .eq true .int (.tmp 47) (.tmp 49)⟩,
     ⟨(some 51), none, .pure, .pick (.tmp 43) (.const (.bool true)) (.tmp 50)⟩])
   (.cond (.tmp 51)
    (.seq (.region [
      ⟨(some 2), none, .act, .mv (.const (.bool false))⟩])
    .ret)
    .skip))
   (.seq (.region [
     ⟨(some 52), none, .act, .mv (.tmp 7)⟩,
     ⟨(some 53), none, .act, .fieldAddr 0 (.tmp 6)⟩,
     ⟨(some 54), none, .act, .load false 1 (.tmp 53)⟩,
     ⟨(some 55), none, .act, .eq false .int (.tmp 54) (.const (.int .i64 3))⟩,
     ⟨(some 56), none, .act, .mv (.tmp 55)⟩,
     ⟨(some 57), (some (56, false)), .act, .fieldAddr 0 (.tmp 6)⟩,
     ⟨(some 58), (some (56, false)), .act, .load false 1 (.tmp 57)⟩,
     ⟨(some 59), (some (56, false)), .act, .eq false .int (.tmp 58) (.const (.int .i64 4))⟩,
     ⟨(some 60), none, .act, .pick (.tmp 56) (.const (.bool true)) (.tmp 59)⟩,
     ⟨(some 61), none, .act, .nilCheck (.tmp 52)⟩,
     ⟨(some 62), none, .act, .fieldAddr 2 (.tmp 61)⟩,
     ⟨none, none, .act, .store 1 (.tmp 62) (.tmp 60)⟩])
   (.seq (.seq (.region [
     ⟨(some 63), none, .act, .fieldAddr 0 (.tmp 6)⟩,
     ⟨(some 64), none, .act, .load false 1 (.tmp 63)⟩,
     ⟨(some 65), none, .act, .eq true .int (.tmp 64) (.const (.int .i64 3))⟩])
   (.cond (.tmp 65)
    (.exit 1)
    .skip))
   (.seq (.seq (.region [
     ⟨(some 66), none, .pure, .mv (.tmp 4)⟩,
     ⟨(some 67), none, .pure, .fieldAddr 3 (.tmp 6)⟩,
     ⟨(some 68), none, .read, .load false 1 (.tmp 67)⟩,
     ⟨(some 69), none, .read, .lookup 29 (.bool false) (.tmp 66) (.tmp 68) false⟩,
     ⟨(some 70), none, .pure, .mv (.tmp 69)⟩,
     ⟨(some 71), (some (70, false)), .pure, .fieldAddr 3 (.tmp 6)⟩,
     ⟨(some 72), (some (70, false)), .read, .load false 1 (.tmp 71)⟩,
     ⟨(some 73), (some (70, false)), .pure, .mv (.tmp 7)⟩,
     ⟨(some 74), (some (70, false)), .pure, .nilCheck (.tmp 73)⟩,
     ⟨(some 75), (some (70, false)), .pure, .fieldAddr 1 (.tmp 74)⟩,
     ⟨(some 76), (some (70, false)), .read, .load false 1 (.tmp 75)⟩,
     ⟨(some 77), (some (70, false)), .pure, .bin .leq (.tmp 72) (.tmp 76)⟩,
     ⟨(some 78), none, .pure, .pick (.tmp 70) (.const (.bool true)) (.tmp 77)⟩])
   (.cond (.tmp 78)
    (.seq (.region [
      ⟨(some 2), none, .act, .mv (.const (.bool false))⟩])
    .ret)
    .skip))
   (.region [
     ⟨(some 79), none, .act, .mv (.tmp 4)⟩,
     ⟨(some 80), none, .act, .fieldAddr 3 (.tmp 6)⟩,
     ⟨(some 81), none, .act, .load false 1 (.tmp 80)⟩,
     ⟨none, none, .act, .mapUpdate 29 (.tmp 79) (.tmp 81) (.const (.bool true))⟩])))))))))
  (.region [
    ⟨(some 82), none, .act, .bin .add (.tmp 12) (.const (.int .i64 1))⟩,
    ⟨(some 12), none, .act, .mv (.tmp 82)⟩]))))
def r18 : RCode :=
  (.seq (.region [
    ⟨(some 2), none, .act, .mv (.const (.bool false))⟩])
  (.seq (.region [
    ⟨(some 8), none, .act, .makeMap⟩,
    ⟨(some 3), none, .act, .mv (.tmp 8)⟩])
  (.seq (.region [
    ⟨(some 9), none, .act, .makeMap⟩,
    ⟨(some 4), none, .act, .mv (.tmp 9)⟩])
  (.seq (.seq (.region [
    ⟨(some 10), none, .act, .mv (.tmp 0)⟩,
    ⟨(some 11), none, .act, .len (.tmp 10)⟩,
    ⟨(some 12), none, .act, .mv (.const (.int .i64 0))⟩])
  (.block 0
   (.loop r18l0)))
  (.seq (.region [
    ⟨(some 2), none, .act, .mv (.const (.bool true))⟩])
  .ret)))))
theorem res18 : ∃ c, Try.f18.body = some c ∧ resCode Try.prog 83 c = some r18 := ⟨_, rfl, by kernel_rfl⟩
theorem rr18 : resRes Try.prog Try.f18.results.toList = some [.tmp 2] := by kernel_rfl
theorem fok18 : FOk Try.prog 18 ⟨r18, 83, [.tmp 2]⟩ := by
  obtain ⟨c, h1, h2⟩ := res18
  exact ⟨by kernel_rfl, _, c, Try.func18, h1, Try.ntmps18, ⟨_, h2⟩, rr18⟩
def r19l0 : RCode :=
  (.seq (.region [
    ⟨(some 18), none, .act, .bin .lss (.tmp 17) (.tmp 16)⟩])
  (.seq (.cond (.tmp 18)
   .skip
   (.exit 0))
  (.seq (.block 1
   (.seq (.region [
     ⟨(some 19), none, .act, .indexAddr 8 (.tmp 15) (.tmp 17)⟩,
     ⟨(some 20), none, .act, .load true 8 (.tmp 19)⟩,
     ⟨(some 6), none, .act, .alloc [(.int .i64 0), (.int .u64 0), (.int .i64 0), (.int .u64 0), (.slice none 0 0), (.slice none 0 0), (.slice none 0 0), (.slice none 0 0)]⟩,
     ⟨none, none, .act, .store 8 (.tmp 6) (.tmp 20)⟩])
   (.seq (.region [
     ⟨(some 22), none, .act, .mv (.tmp 3)⟩,
     ⟨(some 23), none, .act, .fieldAddr 1 (.tmp 6)⟩,
     ⟨(some 24), none, .act, .load false 1 (.tmp 23)⟩,
     ⟨(some 25), none, .act, .lookup 29 (.int .i64 0) (.tmp 22) (.tmp 24) true⟩,
     ⟨(some 21), none, .act, .mv (.tmp 25)⟩,
     ⟨(some 26), none, .act, .extract (.tmp 21) 0⟩,
     ⟨(some 27), none, .act, .extract (.tmp 21) 1⟩,
     ⟨(some 7), none, .act, .mv (.tmp 26)⟩,
     ⟨(some 8), none, .act, .mv (.tmp 27)⟩])
   (.seq (.region [
     ⟨(some 28), none, .act, .fieldAddr 0 (.tmp 6)⟩,
     ⟨(some 29), none, .act, .load false 1 (.tmp 28)⟩,
     ⟨(some 30), none, .act, .eq false .int (.tmp 29) (.const (.int .i64 1))⟩,
     ⟨(some 31), none, .act, .mv (.tmp 30)⟩,
     ⟨(some 32), (some (31, true)), .act, .mv (.tmp 8)⟩,
     ⟨(some 33), (some (31, true)), .act, .un .not (.tmp 32)⟩,
     ⟨(some 34), none, .act, .pick (.tmp 31) (.tmp 33) (.const (.bool false))⟩])
   (.cond (.tmp 34)
    (.seq (.region [
      ⟨(some 35), none, .act, .mv (.tmp 3)⟩,
      ⟨(some 36), none, .act, .fieldAddr 1 (.tmp 6)⟩,
      ⟨(some 37), none, .act, .load false 1 (.tmp 36)⟩,
      ⟨(some 38), none, .act, .mv (.tmp 4)⟩,
      ⟨(some 39), none, .act, .len (.tmp 38)⟩,
      ⟨none, none, .act, .mapUpdate 29 (.tmp 35) (.tmp 37) (.tmp 39)⟩])
    (.region [
      ⟨(some 40), none, .act, .mv (.tmp 4)⟩,
      ⟨(some 41), none, .act, .fieldAddr 1 (.tmp 6)⟩,
      ⟨(some 42), none, .act, .load false 1 (.tmp 41)⟩,
      ⟨(some 43), none, .act, .fieldAddr 2 (.tmp 6)⟩,
      ⟨(some 44), none, .act, .load false 1 (.tmp 43)⟩,
      ⟨(some 45), none, .act, .fieldAddr 3 (.tmp 6)⟩,
      ⟨(some 46), none, .act, .load false 1 (.tmp 45)⟩,
      ⟨(some 47), none, .act, .build [(.int .u64 0), (.int .i64 0), (.int .i64 0), (.int .u64 0), (.int .u64 0), (.slice none 0 0), (.slice none 0 0), (.slice none 0 0)] [(0, 1, (.tmp 42)), (1, 1, (.tmp 44)), (3, 1, (.tmp 46))]⟩,
      ⟨(some 48), none, .act, .buildSl 8 [(.int .u64 0), (.int .i64 0), (.int .i64 0), (.int .u64 0), (.int .u64 0), (.slice none 0 0), (.slice none 0 0), (.slice none 0 0)] 1 [(0, (.tmp 47))]⟩,
      ⟨(some 49), none, .act, .append 8 112 [(.int .u64 0), (.int .i64 0), (.int .i64 0), (.int .u64 0), (.int .u64 0), (.slice none 0 0), (.slice none 0 0), (.slice none 0 0)] (.tmp 40) (.tmp 48)⟩,
      ⟨(some 4), none, .act, .mv (.tmp 49)⟩]))
    .skip)))))
  (.region [
    ⟨(some 50), none, .act, .bin .add (.tmp 17) (.const (.int .i64 1))⟩,
    ⟨(some 17), none, .act, .mv (.tmp 50)⟩]))))
def r19l1 : RCode :=
  (.seq (.region [
    ⟨(some 54), none, .act, .bin .lss (.tmp 53) (.tmp 52)⟩])
  (.seq (.cond (.tmp 54)
   .skip
   (.exit 2))
  (.seq (.block 3
   (.seq (.region [
     ⟨(some 55), none, .act, .indexAddr 8 (.tmp 51) (.tmp 53)⟩,
     ⟨(some 56), none, .act, .load true 8 (.tmp 55)⟩,
     ⟨(some 10), none, .act, .alloc [(.int .i64 0), (.int .u64 0), (.int .i64 0), (.int .u64 0), (.slice none 0 0), (.slice none 0 0), (.slice none 0 0), (.slice none 0 0)]⟩,
     ⟨none, none, .act, .store 8 (.tmp 10) (.tmp 56)⟩])
   (.seq (.region [
     ⟨(some 58), none, .act, .mv (.tmp 3)⟩,
     ⟨(some 59), none, .act, .fieldAddr 1 (.tmp 10)⟩,
     ⟨(some 60), none, .act, .load false 1 (.tmp 59)⟩,
     ⟨(some 61), none, .act, .lookup 29 (.int .i64 0) (.tmp 58) (.tmp 60) true⟩,
     ⟨(some 57), none, .act, .mv (.tmp 61)⟩,
     ⟨(some 62), none, .act, .extract (.tmp 57) 0⟩,
     ⟨(some 63), none, .act, .extract (.tmp 57) 1⟩,
     ⟨(some 11), none, .act, .mv (.tmp 62)⟩,
     ⟨(some 12), none, .act, .mv (.tmp 63)⟩])
   (.seq (.seq (.region [
     ⟨(some 64), none, .act, .mv (.tmp 12)⟩,
     ⟨(some 65), none, .act, .un .not (.tmp 64)⟩])
   (.cond (.tmp 65)
    (.exit 3)
    .skip))
   (.seq (.region [
     ⟨(some 66), none, .act, .mv (.tmp 4)⟩,
     ⟨(some 67), none, .act, .mv (.tmp 11)⟩,
     ⟨(some 68), none, .act, .indexAddr 8 (.tmp 66) (.tmp 67)⟩,
     ⟨(some 13), none, .act, .mv (.tmp 68)⟩])
   (.seq (.region [
     ⟨(some 69), none, .act, .fieldAddr 0 (.tmp 10)⟩,
     ⟨(some 70), none, .act, .load false 1 (.tmp 69)⟩])
   (.block 4
    (.seq (.region [
      ⟨(some 72), none, .act, .eq false .int (.tmp 70) (.const (.int .i64 2))⟩,
      ⟨(some 71), none, .act, .mv (.tmp 72)⟩])
    (.cond (.tmp 71)
     (.region [
       ⟨(some 73), none, .pure, .mv (.tmp 13)⟩,
       ⟨(some 74), none, .pure, .mv (.tmp 13)⟩,
       ⟨(some 75), none, .pure, .mv (.tmp 13)⟩,
       ⟨(some 76), none, .pure, .nilCheck (.tmp 75)⟩,
       ⟨(some 77), none, .pure, .fieldAddr 6 (.tmp 76)⟩,
       ⟨(some 78), none, .read, .load false 1 (.tmp 77)⟩,
       ⟨(some 79), none, .pure, .fieldAddr 6 (.tmp 10)⟩,
       ⟨(some 80), none, .read, .load false 1 (.tmp 79)⟩,
       ⟨(some 81), none, .read, .append 4 64 [(.slice none 0 0), (.int .u64 0), (.int .u64 0), (.slice none 0 0)] (.tmp 78) (.tmp 80)⟩,
       ⟨(some 82), none, .pure, .mv (.tmp 13)⟩,
       ⟨(some 83), none, .pure, .nilCheck (.tmp 82)⟩,
       ⟨(some 84), none, .pure, .fieldAddr 7 (.tmp 83)⟩,
       ⟨(some 85), none, .read, .load false 1 (.tmp 84)⟩,
       ⟨(some 86), none, .pure, .fieldAddr 4 (.tmp 10)⟩,
       ⟨(some 87), none, .read, .load true 2 (.tmp 86)⟩,
       ⟨(some 88), none, .pure, .buildSl 2 [(.slice none 0 0), (.slice none 0 0)] 1 [(0, (.tmp 87))]⟩,
       ⟨(some 89), none, .act, .append 2 48 [(.slice none 0 0), (.slice none 0 0)] (.tmp 85) (.tmp 88)⟩,
       ⟨(some 90), none, .pure, .nilCheck (.tmp 73)⟩,
       ⟨(some 91), none, .pure, .fieldAddr 6 (.tmp 90)⟩,
       ⟨none, none, .act, .store 1 (.tmp 91) (.tmp 81)⟩,
       ⟨(some 92), none, .pure, .nilCheck (.tmp 74)⟩,
       ⟨(some 93), none, .pure, .fieldAddr 7 (.tmp 92)⟩,
       ⟨none, none, .act, .store 1 (.tmp 93) (.tmp 89)⟩])
     (.seq (.seq (.region [
       ⟨(some 95), none, .act, .eq false .int (.tmp 70) (.const (.int .i64 3))⟩,
       ⟨(some 94), none, .act, .mv (.tmp 95)⟩])
     (.cond (.tmp 94)
      .skip
      (.region [
        ⟨(some 96), none, .act, .eq false .int (.tmp 70) (.const (.int .i64 4))⟩,
        ⟨(some 94), none, .act, .mv (.tmp 96)⟩])))
     (.cond (.tmp 94)
      (.region [
        ⟨(some 97), none, .act, .mv (.tmp 13)⟩,
        ⟨(some 98), none, .act, .load true 8 (.tmp 10)⟩,
        ⟨(some 99), none, .act, .call 34 [(.tmp 97), (.tmp 98)]⟩])
      .skip)))))))))))
  (.region [
    ⟨(some 100), none, .act, .bin .add (.tmp 53) (.const (.int .i64 1))⟩,
    ⟨(some 53), none, .act, .mv (.tmp 100)⟩]))))
def r19 : RCode :=
  (.seq (.region [
    ⟨(some 2), none, .act, .mv (.const (.slice none 0 0))⟩])
  (.seq (.region [
    ⟨(some 14), none, .act, .makeMap⟩,
    ⟨(some 3), none, .act, .mv (.tmp 14)⟩])
  (.seq (.region [
    ⟨(some 4), none, .act, .mv (.const (.slice none 0 0))⟩])
  (.seq (.seq (.region [
    ⟨(some 15), none, .act, .mv (.tmp 0)⟩,
    ⟨(some 16), none, .act, .len (.tmp 15)⟩,
    ⟨(some 17), none, .act, .mv (.const (.int .i64 0))⟩])
  (.block 0
   (.loop r19l0)))
  (.seq (.seq (.region [
    ⟨(some 51), none, .act, .mv (.tmp 0)⟩,
    ⟨(some 52), none, .act, .len (.tmp 51)⟩,
    ⟨(some 53), none, .act, .mv (.const (.int .i64 0))⟩])
  (.block 2
   (.loop r19l1)))
  (.seq (.region [
    ⟨(some 101), none, .act, .mv (.tmp 4)⟩,
    ⟨(some 2), none, .act, .mv (.tmp 101)⟩])
  .ret))))))
theorem res19 : ∃ c, Try.f19.body = some c ∧ resCode Try.prog 102 c = some r19 := ⟨_, rfl, by kernel_rfl⟩
theorem rr19 : resRes Try.prog Try.f19.results.toList = some [.tmp 2] := by kernel_rfl
theorem fok19 : FOk Try.prog 19 ⟨r19, 102, [.tmp 2]⟩ := by
  obtain ⟨c, h1, h2⟩ := res19
  exact ⟨by kernel_rfl, _, c, Try.func19, h1, Try.ntmps19, ⟨_, h2⟩, rr19⟩
def r34 : RCode :=
  (.seq (.region [
    ⟨(some 3), none, .act, .box (.tmp 1)⟩])
  (.seq (.seq (.region [
    ⟨(some 4), none, .act, .mv (.tmp 0)⟩,
    ⟨(some 5), none, .act, .nilCheck (.tmp 4)⟩,
    ⟨(some 6), none, .act, .fieldAddr 2 (.tmp 5)⟩,
    ⟨(some 7), none, .act, .load false 1 (.tmp 6)⟩,
    ⟨(some 8), none, .act, .eq true .int (.tmp 7) (.const (.int .i64 0))⟩])
  (.cond (.tmp 8)
   .ret
   .skip))
  (.seq (.regionT (.step ⟨(some 9), none, .pure, .mv (.tmp 0)⟩ (.step ⟨(some 10), none, .pure, .mv (.tmp 0)⟩ (.step ⟨(some 11), none, .pure, .mv (.tmp 0)⟩ (.step ⟨(some 12), none, .pure, .fieldAddr 3 (.tmp 3)⟩ (.step ⟨(some 14), none, .pure, .fieldAddr 7 (.tmp 3)⟩ (.step ⟨(some 16), none, .pure, .nilCheck (.tmp 9)⟩ (.step ⟨(some 17), none, .pure, .fieldAddr 2 (.tmp 16)⟩ (.alt ⟨(some 13), none, .read, .load false 1 (.tmp 12)⟩ (.alt ⟨(some 15), none, .read, .load false 1 (.tmp 14)⟩ (.alt ⟨none, none, .act, .store 1 (.tmp 17) (.const (.int .i64 2))⟩ (.step ⟨(some 18), none, .pure, .nilCheck (.tmp 10)⟩ (.step ⟨(some 19), none, .pure, .fieldAddr 4 (.tmp 18)⟩ (.alt ⟨none, none, .act, .store 1 (.tmp 19) (.tmp 13)⟩ (.step ⟨(some 20), none, .pure, .nilCheck (.tmp 11)⟩ (.step ⟨(some 21), none, .pure, .fieldAddr 5 (.tmp 20)⟩ (.alt ⟨none, none, .act, .store 1 (.tmp 21) (.tmp 15)⟩ .done
    .stop)))
    .stop)))
    .stop)
    (.alt ⟨none, none, .act, .store 1 (.tmp 17) (.const (.int .i64 2))⟩ (.step ⟨(some 18), none, .pure, .nilCheck (.tmp 10)⟩ (.step ⟨(some 19), none, .pure, .fieldAddr 4 (.tmp 18)⟩ (.alt ⟨(some 15), none, .read, .load false 1 (.tmp 14)⟩ (.alt ⟨none, none, .act, .store 1 (.tmp 19) (.tmp 13)⟩ (.step ⟨(some 20), none, .pure, .nilCheck (.tmp 11)⟩ (.step ⟨(some 21), none, .pure, .fieldAddr 5 (.tmp 20)⟩ (.alt ⟨none, none, .act, .store 1 (.tmp 21) (.tmp 15)⟩ .done
    .stop)))
    .stop)
    (.alt ⟨none, none, .act, .store 1 (.tmp 19) (.tmp 13)⟩ (.step ⟨(some 15), none, .read, .load false 1 (.tmp 14)⟩ (.step ⟨(some 20), none, .pure, .nilCheck (.tmp 11)⟩ (.step ⟨(some 21), none, .pure, .fieldAddr 5 (.tmp 20)⟩ (.alt ⟨none, none, .act, .store 1 (.tmp 21) (.tmp 15)⟩ .done
    .stop))))
    .stop))))
    .stop))
    (.alt ⟨(some 15), none, .read, .load false 1 (.tmp 14)⟩ (.alt ⟨(some 13), none, .read, .load false 1 (.tmp 12)⟩ (.alt ⟨none, none, .act, .store 1 (.tmp 17) (.const (.int .i64 2))⟩ (.step ⟨(some 18), none, .pure, .nilCheck (.tmp 10)⟩ (.step ⟨(some 19), none, .pure, .fieldAddr 4 (.tmp 18)⟩ (.alt ⟨none, none, .act, .store 1 (.tmp 19) (.tmp 13)⟩ (.step ⟨(some 20), none, .pure, .nilCheck (.tmp 11)⟩ (.step ⟨(some 21), none, .pure, .fieldAddr 5 (.tmp 20)⟩ (.alt ⟨none, none, .act, .store 1 (.tmp 21) (.tmp 15)⟩ .done
    .stop)))
    .stop)))
    .stop)
    (.alt ⟨none, none, .act, .store 1 (.tmp 17) (.const (.int .i64 2))⟩ (.step ⟨(some 13), none, .read, .load false 1 (.tmp 12)⟩ (.step ⟨(some 18), none, .pure, .nilCheck (.tmp 10)⟩ (.step ⟨(some 19), none, .pure, .fieldAddr 4 (.tmp 18)⟩ (.alt ⟨none, none, .act, .store 1 (.tmp 19) (.tmp 13)⟩ (.step ⟨(some 20), none, .pure, .nilCheck (.tmp 11)⟩ (.step ⟨(some 21), none, .pure, .fieldAddr 5 (.tmp 20)⟩ (.alt ⟨none, none, .act, .store 1 (.tmp 21) (.tmp 15)⟩ .done
    .stop)))
    .stop))))
    .stop))
    (.alt ⟨none, none, .act, .store 1 (.tmp 17) (.const (.int .i64 2))⟩ (.step ⟨(some 13), none, .read, .load false 1 (.tmp 12)⟩ (.step ⟨(some 18), none, .pure, .nilCheck (.tmp 10)⟩ (.step ⟨(some 19), none, .pure, .fieldAddr 4 (.tmp 18)⟩ (.alt ⟨(some 15), none, .read, .load false 1 (.tmp 14)⟩ (.alt ⟨none, none, .act, .store 1 (.tmp 19) (.tmp 13)⟩ (.step ⟨(some 20), none, .pure, .nilCheck (.tmp 11)⟩ (.step ⟨(some 21), none, .pure, .fieldAddr 5 (.tmp 20)⟩ (.alt ⟨none, none, .act, .store 1 (.tmp 21) (.tmp 15)⟩ .done
    .stop)))
    .stop)
    (.alt ⟨none, none, .act, .store 1 (.tmp 19) (.tmp 13)⟩ (.step ⟨(some 15), none, .read, .load false 1 (.tmp 14)⟩ (.step ⟨(some 20), none, .pure, .nilCheck (.tmp 11)⟩ (.step ⟨(some 21), none, .pure, .fieldAddr 5 (.tmp 20)⟩ (.alt ⟨none, none, .act, .store 1 (.tmp 21) (.tmp 15)⟩ .done
    .stop))))
    .stop)))))
    .stop)))))))))))
  (.seq (.region [
    ⟨(some 22), none, .act, .fieldAddr 0 (.tmp 3)⟩,
    ⟨(some 23), none, .act, .load false 1 (.tmp 22)⟩,
    ⟨(some 24), none, .act, .eq false .int (.tmp 23) (.const (.int .i64 3))⟩])
  (.cond (.tmp 24)
   (.region [
     ⟨(some 25), none, .act, .mv (.tmp 0)⟩,
     ⟨(some 26), none, .act, .nilCheck (.tmp 25)⟩,
     ⟨(some 27), none, .act, .fieldAddr 2 (.tmp 26)⟩,
     ⟨none, none, .act, .store 1 (.tmp 27) (.const (.int .i64 1))⟩])
   .skip)))))
theorem res34 : ∃ c, Try.f34.body = some c ∧ resCode Try.prog 28 c = some r34 := ⟨_, rfl, by kernel_rfl⟩
theorem rr34 : resRes Try.prog Try.f34.results.toList = some [] := by kernel_rfl
theorem fok34 : FOk Try.prog 34 ⟨r34, 28, []⟩ := by
  obtain ⟨c, h1, h2⟩ := res34
  exact ⟨by kernel_rfl, _, c, Try.func34, h1, Try.ntmps34, ⟨_, h2⟩, rr34⟩
def r20l0 : RCode :=
  (.seq (.region [
    ⟨(some 16), none, .act, .bin .lss (.tmp 15) (.tmp 14)⟩])
  (.seq (.cond (.tmp 16)
   .skip
   (.exit 0))
  (.seq (.block 1
   (.seq (.region [
     ⟨(some 17), none, .act, .indexAddr 4 (.tmp 13) (.tmp 15)⟩,
     ⟨(some 18), none, .act, .load true 4 (.tmp 17)⟩,
     ⟨(some 8), none, .act, .alloc [(.slice none 0 0), (.int .u64 0), (.int .u64 0), (.slice none 0 0)]⟩,
     ⟨none, none, .act, .store 4 (.tmp 8) (.tmp 18)⟩])
   (.seq (.seq (.region [
     ⟨(some 19), none, .act, .fieldAddr 1 (.tmp 8)⟩,
     ⟨(some 20), none, .act, .load false 1 (.tmp 19)⟩,
     ⟨(some 21), none, .act, .eq false .int (.tmp 20) (.const (.int .u64 0))⟩])
   (.cond (.tmp 21)
    (.exit 1)
    .skip))
   (.seq (.region [
     ⟨(some 23), none, .act, .mv (.tmp 0)⟩,
     ⟨(some 24), none, .act, .fieldAddr 2 (.tmp 8)⟩,
     ⟨(some 25), none, .act, .load false 1 (.tmp 24)⟩,
     ⟨(some 26), none, .act, .call 28 [(.tmp 23), (.tmp 25)]⟩,
     ⟨(some 22), none, .act, .mv (.tmp 26)⟩,
     ⟨(some 27), none, .act, .extract (.tmp 22) 0⟩,
     ⟨(some 28), none, .act, .extract (.tmp 22) 1⟩,
     ⟨(some 9), none, .act, .alloc [(.int .u64 0), (.int .i64 0), (.int .i64 0), (.int .u64 0), (.int .u64 0), (.slice none 0 0), (.slice none 0 0), (.slice none 0 0)]⟩,
     ⟨none, none, .act, .store 8 (.tmp 9) (.tmp 27)⟩,
     ⟨(some 10), none, .act, .mv (.tmp 28)⟩])
   (.seq (.region [
     ⟨(some 29), none, .act, .mv (.tmp 5)⟩,
     ⟨(some 30), none, .act, .mv (.tmp 29)⟩,
     ⟨(some 31), (some (30, false)), .act, .mv (.tmp 10)⟩,
     ⟨(some 32), (some (30, false)), .act, .un .not (.tmp 31)⟩,
     ⟨(some 33), none, .act, .pick (.tmp 30) (.const (.bool true)) (.tmp 32)⟩,
     ⟨(some 34), none, .act, .mv (.tmp 33)⟩,
     ⟨(some 35), (some (34, false)), .act, .fieldAddr 4 (.tmp 9)⟩,
     ⟨(some 36), (some (34, false)), .act, .load false 1 (.tmp 35)⟩,
     ⟨(some 37), (some (34, false)), .act, .fieldAddr 1 (.tmp 8)⟩,
     ⟨(some 38), (some (34, false)), .act, .load false 1 (.tmp 37)⟩,
     ⟨(some 39), (some (34, false)), .act, .eq true .int (.tmp 36) (.tmp 38)⟩,
     ⟨(some 40), none, .act, .pick (.tmp 34) (.const (.bool true)) (.tmp 39)⟩,
     ⟨(some 5), none, .act, .mv (.tmp 40)⟩])
   (.seq (.region [
     ⟨(some 42), none, .act, .mv (.tmp 0)⟩,
     ⟨(some 43), none, .act, .fieldAddr 2 (.tmp 8)⟩,
     ⟨(some 44), none, .act, .load false 1 (.tmp 43)⟩,
     ⟨(some 45), none, .act, .call 35 [(.tmp 42), (.tmp 44)]⟩,
     ⟨(some 41), none, .act, .mv (.tmp 45)⟩,
     ⟨(some 46), none, .act, .extract (.tmp 41) 0⟩,
     ⟨(some 47), none, .act, .extract (.tmp 41) 1⟩,
     ⟨none, none, .act, .store 8 (.tmp 9) (.tmp 46)⟩])
   (.region [
     ⟨(some 48), none, .act, .mv (.tmp 6)⟩,
     ⟨(some 49), none, .act, .mv (.tmp 48)⟩,
     ⟨(some 50), (some (49, false)), .act, .load true 8 (.tmp 9)⟩,
     ⟨(some 51), (some (49, false)), .act, .load true 4 (.tmp 8)⟩,
     ⟨(some 52), (some (49, false)), .act, .call 36 [(.tmp 50), (.tmp 51)]⟩,
     ⟨(some 53), (some (49, false)), .act, .un .not (.tmp 52)⟩,
     ⟨(some 54), none, .act, .pick (.tmp 49) (.const (.bool true)) (.tmp 53)⟩,
     ⟨(some 6), none, .act, .mv (.tmp 54)⟩])))))))
  (.region [
    ⟨(some 55), none, .act, .bin .add (.tmp 15) (.const (.int .i64 1))⟩,
    ⟨(some 15), none, .act, .mv (.tmp 55)⟩]))))
def r20 : RCode :=
  (.seq (.region [
    ⟨(some 3), none, .act, .box (.tmp 1)⟩,
    ⟨(some 4), none, .act, .mv (.const (.slice none 0 0))⟩])
  (.seq (.region [
    ⟨(some 5), none, .act, .mv (.const (.bool false))⟩,
    ⟨(some 6), none, .act, .mv (.const (.bool false))⟩])
  (.seq (.seq (.region [
    ⟨(some 12), none, .act, .fieldAddr 6 (.tmp 3)⟩,
    ⟨(some 13), none, .act, .load false 1 (.tmp 12)⟩,
    ⟨(some 14), none, .act, .len (.tmp 13)⟩,
    ⟨(some 15), none, .act, .mv (.const (.int .i64 0))⟩])
  (.block 0
   (.loop r20l0)))
  (.seq (.region [
    ⟨(some 11), none, .act, .mv (.const (.slice none 0 0))⟩])
  (.seq (.seq (.region [
    ⟨(some 56), none, .act, .mv (.tmp 5)⟩])
  (.cond (.tmp 56)
   (.region [
     ⟨(some 57), none, .act, .mv (.tmp 11)⟩,
     ⟨(some 58), none, .act, .fieldAddr 0 (.tmp 3)⟩,
     ⟨(some 59), none, .act, .load false 1 (.tmp 58)⟩,
     ⟨(some 60), none, .act, .build [(.int .i64 0), (.int .u64 0)] [(0, 1, (.const (.int .i64 2))), (1, 1, (.tmp 59))]⟩,
     ⟨(some 61), none, .act, .buildSl 2 [(.int .i64 0), (.int .u64 0)] 1 [(0, (.tmp 60))]⟩,
     ⟨(some 62), none, .act, .append 2 16 [(.int .i64 0), (.int .u64 0)] (.tmp 57) (.tmp 61)⟩,
     ⟨(some 11), none, .act, .mv (.tmp 62)⟩])
   .skip))
  (.seq (.seq (.region [
    ⟨(some 63), none, .act, .mv (.tmp 6)⟩])
  (.cond (.tmp 63)
   (.region [
     ⟨(some 64), none, .act, .mv (.tmp 11)⟩,
     ⟨(some 65), none, .act, .fieldAddr 0 (.tmp 3)⟩,
     ⟨(some 66), none, .act, .load false 1 (.tmp 65)⟩,
     ⟨(some 67), none, .act, .build [(.int .i64 0), (.int .u64 0)] [(0, 1, (.const (.int .i64 3))), (1, 1, (.tmp 66))]⟩,
     ⟨(some 68), none, .act, .buildSl 2 [(.int .i64 0), (.int .u64 0)] 1 [(0, (.tmp 67))]⟩,
     ⟨(some 69), none, .act, .append 2 16 [(.int .i64 0), (.int .u64 0)] (.tmp 64) (.tmp 68)⟩,
     ⟨(some 11), none, .act, .mv (.tmp 69)⟩])
   .skip))
  (.seq (.region [
    ⟨(some 70), none, .act, .mv (.tmp 11)⟩,
    ⟨(some 4), none, .act, .mv (.tmp 70)⟩])
  .ret)))))))
theorem res20 : ∃ c, Try.f20.body = some c ∧ resCode Try.prog 71 c = some r20 := ⟨_, rfl, by kernel_rfl⟩
theorem rr20 : resRes Try.prog Try.f20.results.toList = some [.tmp 4] := by kernel_rfl
theorem fok20 : FOk Try.prog 20 ⟨r20, 71, [.tmp 4]⟩ := by
  obtain ⟨c, h1, h2⟩ := res20
  exact ⟨by kernel_rfl, _, c, Try.func20, h1, Try.ntmps20, ⟨_, h2⟩, rr20⟩
def r28 : RCode :=
  (.seq (.region [
    ⟨(some 4), none, .act, .alloc [(.int .u64 0), (.int .i64 0), (.int .i64 0), (.int .u64 0), (.int .u64 0), (.slice none 0 0), (.slice none 0 0), (.slice none 0 0)]⟩,
    ⟨(some 5), none, .act, .mv (.const (.bool false))⟩])
  (.seq (.region [
    ⟨(some 9), none, .act, .mv (.tmp 0)⟩,
    ⟨(some 10), none, .act, .mv (.tmp 1)⟩,
    ⟨(some 11), none, .act, .call 35 [(.tmp 9), (.tmp 10)]⟩,
    ⟨(some 8), none, .act, .mv (.tmp 11)⟩,
    ⟨(some 12), none, .act, .extract (.tmp 8) 0⟩,
    ⟨(some 13), none, .act, .extract (.tmp 8) 1⟩,
    ⟨(some 6), none, .act, .alloc [(.int .u64 0), (.int .i64 0), (.int .i64 0), (.int .u64 0), (.int .u64 0), (.slice none 0 0), (.slice none 0 0), (.slice none 0 0)]⟩,
    ⟨none, none, .act, .store 8 (.tmp 6) (.tmp 12)⟩,
    ⟨(some 7), none, .act, .mv (.tmp 13)⟩])
  (.seq (.regionT (.step ⟨(some 14), none, .read, .load true 8 (.tmp 6)⟩ (.step ⟨(some 15), none, .pure, .mv (.tmp 7)⟩ (.step ⟨(some 16), none, .pure, .mv (.tmp 15)⟩ (.step ⟨(some 17), (some (16, true)), .pure, .fieldAddr 2 (.tmp 6)⟩ (.alt ⟨(some 18), (some (16, true)), .read, .load false 1 (.tmp 17)⟩ (.step ⟨(some 19), (some (16, true)), .pure, .eq false .int (.tmp 18) (.const (.int .i64 1))⟩ (.step ⟨(some 20), none, .pure, .pick (.tmp 16) (.tmp 19) (.const (.bool false))⟩ (.alt ⟨none, none, .act, .store 8 (.tmp 4) (.tmp 14)⟩ (.step ⟨(some 5), none, .pure, .mv (.tmp 20)⟩ .done)
    .stop)))
    (.alt ⟨none, none, .act, .store 8 (.tmp 4) (.tmp 14)⟩ (.step ⟨(some 18), (some (16, true)), .read, .load false 1 (.tmp 17)⟩ (.step ⟨(some 19), (some (16, true)), .pure, .eq false .int (.tmp 18) (.const (.int .i64 1))⟩ (.step ⟨(some 20), none, .pure, .pick (.tmp 16) (.tmp 19) (.const (.bool false))⟩ (.step ⟨(some 5), none, .pure, .mv (.tmp 20)⟩ .done))))
    .stop)))))))
  .ret)))
theorem res28 : ∃ c, Try.f28.body = some c ∧ resCode Try.prog 21 c = some r28 := ⟨_, rfl, by kernel_rfl⟩
theorem rr28 : resRes Try.prog Try.f28.results.toList = some [.cell 4 true 8, .tmp 5] := by kernel_rfl
theorem fok28 : FOk Try.prog 28 ⟨r28, 21, [.cell 4 true 8, .tmp 5]⟩ := by
  obtain ⟨c, h1, h2⟩ := res28
  exact ⟨by kernel_rfl, _, c, Try.func28, h1, Try.ntmps28, ⟨_, h2⟩, rr28⟩
def r35 : RCode :=
  (.seq (.region [
    ⟨(some 3), none, .act, .box (.tmp 1)⟩,
    ⟨(some 4), none, .act, .alloc [(.int .u64 0), (.int .i64 0), (.int .i64 0), (.int .u64 0), (.int .u64 0), (.slice none 0 0), (.slice none 0 0), (.slice none 0 0)]⟩,
    ⟨(some 5), none, .act, .mv (.const (.bool false))⟩])
  (.seq (.region [
    ⟨(some 7), none, .act, .mv (.tmp 0)⟩,
    ⟨(some 8), none, .act, .makeFunc (.func 53) [] [(.tmp 3)]⟩,
    ⟨(some 9), none, .act, .call 52 [(.tmp 7), (.tmp 8)]⟩,
    ⟨(some 6), none, .act, .mv (.tmp 9)⟩])
  (.seq (.seq (.region [
    ⟨(some 10), none, .act, .mv (.tmp 6)⟩,
    ⟨(some 11), none, .act, .bin .lss (.tmp 10) (.const (.int .i64 0))⟩])
  (.cond (.tmp 11)
   (.seq (.region [
     ⟨(some 12), none, .act, .build [(.int .u64 0), (.int .i64 0), (.int .i64 0), (.int .u64 0), (.int .u64 0), (.slice none 0 0), (.slice none 0 0), (.slice none 0 0)] []⟩,
     ⟨none, none, .act, .store 8 (.tmp 4) (.tmp 12)⟩,
     ⟨(some 5), none, .act, .mv (.const (.bool false))⟩])
   .ret)
   .skip))
  (.seq (.region [
    ⟨(some 13), none, .act, .mv (.tmp 0)⟩,
    ⟨(some 14), none, .act, .mv (.tmp 6)⟩,
    ⟨(some 15), none, .act, .indexAddr 8 (.tmp 13) (.tmp 14)⟩,
    ⟨(some 16), none, .act, .load true 8 (.tmp 15)⟩,
    ⟨none, none, .act, .store 8 (.tmp 4) (.tmp 16)⟩,
    ⟨(some 5), none, .act, .mv (.const (.bool true))⟩])
  .ret))))
theorem res35 : ∃ c, Try.f35.body = some c ∧ resCode Try.prog 17 c = some r35 := ⟨_, rfl, by kernel_rfl⟩
theorem rr35 : resRes Try.prog Try.f35.results.toList = some [.cell 4 true 8, .tmp 5] := by kernel_rfl
theorem fok35 : FOk Try.prog 35 ⟨r35, 17, [.cell 4 true 8, .tmp 5]⟩ := by
  obtain ⟨c, h1, h2⟩ := res35
  exact ⟨by kernel_rfl, _, c, Try.func35, h1, Try.ntmps35, ⟨_, h2⟩, rr35⟩
def r52l0 : RCode :=
  (.seq (.region [
    ⟨(some 9), none, .act, .bin .lss (.tmp 8) (.tmp 7)⟩])
  (.seq (.cond (.tmp 9)
   .skip
   (.exit 0))
  (.seq (.block 1
   (.seq (.region [
     ⟨(some 10), none, .act, .mv (.tmp 8)⟩,
     ⟨(some 5), none, .act, .mv (.tmp 10)⟩])
   (.seq (.region [
     ⟨(some 11), none, .act, .mv (.tmp 1)⟩,
     ⟨(some 12), none, .act, .mv (.tmp 0)⟩,
     ⟨(some 13), none, .act, .mv (.tmp 5)⟩,
     ⟨(some 14), none, .act, .indexAddr 8 (.tmp 12) (.tmp 13)⟩,
     ⟨(some 15), none, .act, .load true 8 (.tmp 14)⟩,
     ⟨(some 16), none, .act, .callv (.tmp 11) [(.tmp 15)]⟩])
   (.cond (.tmp 16)
    (.seq (.region [
      ⟨(some 17), none, .act, .mv (.tmp 5)⟩,
      ⟨(some 4), none, .act, .mv (.tmp 17)⟩])
    .ret)
    .skip))))
  (.region [
    ⟨(some 18), none, .act, .bin .add (.tmp 8) (.const (.int .i64 1))⟩,
    ⟨(some 8), none, .act, .mv (.tmp 18)⟩]))))
def r52 : RCode :=
  (.seq (.region [
    ⟨(some 4), none, .act, .mv (.const (.int .i64 0))⟩])
  (.seq (.seq (.region [
    ⟨(some 6), none, .act, .mv (.tmp 0)⟩,
    ⟨(some 7), none, .act, .len (.tmp 6)⟩,
    ⟨(some 8), none, .act, .mv (.const (.int .i64 0))⟩])
  (.block 0
   (.loop r52l0)))
  (.seq (.region [
    ⟨(some 4), none, .act, .mv (.const (.int .i64 (-1)))⟩])
  .ret)))
theorem res52 : ∃ c, Try.f52.body = some c ∧ resCode Try.prog 19 c = some r52 := ⟨_, rfl, by kernel_rfl⟩
theorem rr52 : resRes Try.prog Try.f52.results.toList = some [.tmp 4] := by kernel_rfl
theorem fok52 : FOk Try.prog 52 ⟨r52, 19, [.tmp 4]⟩ := by
  obtain ⟨c, h1, h2⟩ := res52
  exact ⟨by kernel_rfl, _, c, Try.func52, h1, Try.ntmps52, ⟨_, h2⟩, rr52⟩
def r53 : RCode :=
  (.seq (.region [
    ⟨(some 2), none, .act, .box (.tmp 0)⟩,
    ⟨(some 3), none, .act, .mv (.const (.bool false))⟩])
  (.seq (.region [
    ⟨(some 4), none, .act, .fieldAddr 0 (.tmp 2)⟩,
    ⟨(some 5), none, .act, .load false 1 (.tmp 4)⟩,
    ⟨(some 6), none, .act, .load false 1 (.tmp 1)⟩,
    ⟨(some 7), none, .act, .eq false .int (.tmp 5) (.tmp 6)⟩,
    ⟨(some 3), none, .act, .mv (.tmp 7)⟩])
  .ret))
theorem res53 : ∃ c, Try.f53.body = some c ∧ resCode Try.prog 8 c = some r53 := ⟨_, rfl, by kernel_rfl⟩
theorem rr53 : resRes Try.prog Try.f53.results.toList = some [.tmp 3] := by kernel_rfl
theorem fok53 : FOk Try.prog 53 ⟨r53, 8, [.tmp 3]⟩ := by
  obtain ⟨c, h1, h2⟩ := res53
  exact ⟨by kernel_rfl, _, c, Try.func53, h1, Try.ntmps53, ⟨_, h2⟩, rr53⟩
def r36 : RCode :=
  (.seq (.region [
    ⟨(some 2), none, .act, .box (.tmp 0)⟩,
    ⟨(some 3), none, .act, .box (.tmp 1)⟩,
    ⟨(some 4), none, .act, .mv (.const (.bool false))⟩])
  (.seq (.region [
    ⟨(some 6), none, .act, .fieldAddr 5 (.tmp 2)⟩,
    ⟨(some 7), none, .act, .load false 1 (.tmp 6)⟩,
    ⟨(some 8), none, .act, .makeFunc (.func 54) [] [(.tmp 3)]⟩,
    ⟨(some 9), none, .act, .call 43 [(.tmp 7), (.tmp 8)]⟩,
    ⟨(some 5), none, .act, .mv (.tmp 9)⟩])
  (.seq (.region [
    ⟨(some 10), none, .act, .mv (.tmp 5)⟩,
    ⟨(some 11), none, .act, .mv (.tmp 10)⟩,
    ⟨(some 12), (some (11, true)), .act, .fieldAddr 5 (.tmp 2)⟩,
    ⟨(some 13), (some (11, true)), .act, .load false 1 (.tmp 12)⟩,
    ⟨(some 14), (some (11, true)), .act, .fieldAddr 3 (.tmp 3)⟩,
    ⟨(some 15), (some (11, true)), .act, .load false 1 (.tmp 14)⟩,
    ⟨(some 16), (some (11, true)), .act, .call 55 [(.tmp 13), (.tmp 15), (.func 39)]⟩,
    ⟨(some 17), none, .act, .pick (.tmp 11) (.tmp 16) (.const (.bool false))⟩,
    ⟨(some 4), none, .act, .mv (.tmp 17)⟩])
  .ret)))
theorem res36 : ∃ c, Try.f36.body = some c ∧ resCode Try.prog 18 c = some r36 := ⟨_, rfl, by kernel_rfl⟩
theorem rr36 : resRes Try.prog Try.f36.results.toList = some [.tmp 4] := by kernel_rfl
theorem fok36 : FOk Try.prog 36 ⟨r36, 18, [.tmp 4]⟩ := by
  obtain ⟨c, h1, h2⟩ := res36
  exact ⟨by kernel_rfl, _, c, Try.func36, h1, Try.ntmps36, ⟨_, h2⟩, rr36⟩
def r43 : RCode :=
  (.seq (.region [
    ⟨(some 4), none, .act, .mv (.const (.bool false))⟩])
  (.seq (.region [
    ⟨(some 5), none, .act, .mv (.tmp 0)⟩,
    ⟨(some 6), none, .act, .mv (.tmp 1)⟩,
    ⟨(some 7), none, .act, .call 62 [(.tmp 5), (.tmp 6)]⟩,
    ⟨(some 8), none, .act, .bin .geq (.tmp 7) (.const (.int .i64 0))⟩,
    ⟨(some 4), none, .act, .mv (.tmp 8)⟩])
  .ret))
theorem res43 : ∃ c, Try.f43.body = some c ∧ resCode Try.prog 9 c = some r43 := ⟨_, rfl, by kernel_rfl⟩
theorem rr43 : resRes Try.prog Try.f43.results.toList = some [.tmp 4] := by kernel_rfl
theorem fok43 : FOk Try.prog 43 ⟨r43, 9, [.tmp 4]⟩ := by
  obtain ⟨c, h1, h2⟩ := res43
  exact ⟨by kernel_rfl, _, c, Try.func43, h1, Try.ntmps43, ⟨_, h2⟩, rr43⟩
def r62l0 : RCode :=
  (.seq (.region [
    ⟨(some 9), none, .act, .bin .lss (.tmp 8) (.tmp 7)⟩])
  (.seq (.cond (.tmp 9)
   .skip
   (.exit 0))
  (.seq (.block 1
   (.seq (.region [
     ⟨(some 10), none, .act, .mv (.tmp 8)⟩,
     ⟨(some 5), none, .act, .mv (.tmp 10)⟩])
   (.seq (.region [
     ⟨(some 11), none, .act, .mv (.tmp 1)⟩,
     ⟨(some 12), none, .act, .mv (.tmp 0)⟩,
     ⟨(some 13), none, .act, .mv (.tmp 5)⟩,
     ⟨(some 14), none, .act, .indexAddr 1 (.tmp 12) (.tmp 13)⟩,
     ⟨(some 15), none, .act, .load false 1 (.tmp 14)⟩,
     ⟨(some 16), none, .act, .callv (.tmp 11) [(.tmp 15)]⟩])
   (.cond (.tmp 16)
    (.seq (.region [
      ⟨(some 17), none, .act, .mv (.tmp 5)⟩,
      ⟨(some 4), none, .act, .mv (.tmp 17)⟩])
    .ret)
    .skip))))
  (.region [
    ⟨(some 18), none, .act, .bin .add (.tmp 8) (.const (.int .i64 1))⟩,
    ⟨(some 8), none, .act, .mv (.tmp 18)⟩]))))
def r62 : RCode :=
  (.seq (.region [
    ⟨(some 4), none, .act, .mv (.const (.int .i64 0))⟩])
  (.seq (.seq (.region [
    ⟨(some 6), none, .act, .mv (.tmp 0)⟩,
    ⟨(some 7), none, .act, .len (.tmp 6)⟩,
    ⟨(some 8), none, .act, .mv (.const (.int .i64 0))⟩])
  (.block 0
   (.loop r62l0)))
  (.seq (.region [
    ⟨(some 4), none, .act, .mv (.const (.int .i64 (-1)))⟩])
  .ret)))
theorem res62 : ∃ c, Try.f62.body = some c ∧ resCode Try.prog 19 c = some r62 := ⟨_, rfl, by kernel_rfl⟩
theorem rr62 : resRes Try.prog Try.f62.results.toList = some [.tmp 4] := by kernel_rfl
theorem fok62 : FOk Try.prog 62 ⟨r62, 19, [.tmp 4]⟩ := by
  obtain ⟨c, h1, h2⟩ := res62
  exact ⟨by kernel_rfl, _, c, Try.func62, h1, Try.ntmps62, ⟨_, h2⟩, rr62⟩
def r21 : RCode :=
  (.seq (.region [
    ⟨(some 3), none, .act, .box (.tmp 1)⟩,
    ⟨(some 4), none, .act, .mv (.const (.bool false))⟩])
  (.seq (.region [
    ⟨(some 5), none, .act, .fieldAddr 2 (.tmp 3)⟩,
    ⟨(some 6), none, .act, .load false 1 (.tmp 5)⟩,
    ⟨(some 7), none, .act, .eq false .int (.tmp 6) (.const (.int .i64 1))⟩,
    ⟨(some 8), none, .act, .mv (.tmp 7)⟩,
    ⟨(some 9), (some (8, true)), .act, .fieldAddr 1 (.tmp 3)⟩,
    ⟨(some 10), (some (8, true)), .act, .load false 1 (.tmp 9)⟩,
    ⟨(some 11), (some (8, true)), .act, .eq false .int (.tmp 10) (.const (.int .i64 2))⟩,
    ⟨(some 12), none, .act, .pick (.tmp 8) (.tmp 11) (.const (.bool false))⟩,
    ⟨(some 13), none, .act, .mv (.tmp 12)⟩,
    ⟨(some 14), (some (13, true)), .act, .fieldAddr 6 (.tmp 3)⟩,
    ⟨(some 15), (some (13, true)), .act, .load false 1 (.tmp 14)⟩,
    ⟨(some 16), (some (13, true)), .act, .call 37 [(.tmp 15)]⟩,
    ⟨(some 17), none, .act, .pick (.tmp 13) (.tmp 16) (.const (.bool false))⟩,
    ⟨(some 4), none, .act, .mv (.tmp 17)⟩])
  .ret))
theorem res21 : ∃ c, Try.f21.body = some c ∧ resCode Try.prog 18 c = some r21 := ⟨_, rfl, by kernel_rfl⟩
theorem rr21 : resRes Try.prog Try.f21.results.toList = some [.tmp 4] := by kernel_rfl
theorem fok21 : FOk Try.prog 21 ⟨r21, 18, [.tmp 4]⟩ := by
  obtain ⟨c, h1, h2⟩ := res21
  exact ⟨by kernel_rfl, _, c, Try.func21, h1, Try.ntmps21, ⟨_, h2⟩, rr21⟩
def r22l1 : RCode :=
  (.seq (.region [
    ⟨(some 39), none, .act, .bin .lss (.tmp 38) (.tmp 37)⟩])
  (.seq (.cond (.tmp 39)
   .skip
   (.exit 2))
  (.seq (.block 3
   (.seq (.region [
     ⟨(some 40), none, .act, .indexAddr 4 (.tmp 36) (.tmp 38)⟩,
     ⟨(some 41), none, .act, .load true 4 (.tmp 40)⟩,
     ⟨(some 10), none, .act, .alloc [(.slice none 0 0), (.int .u64 0), (.int .u64 0), (.slice none 0 0)]⟩,
     ⟨none, none, .act, .store 4 (.tmp 10) (.tmp 41)⟩])
   (.seq (.seq (.region [
     ⟨(some 42), none, .act, .fieldAddr 0 (.tmp 10)⟩,
     ⟨(some 43), none, .act, .load false 1 (.tmp 42)⟩,
     ⟨(some 44), none, .act, .mv (.tmp 6)⟩,
     ⟨(some 45), none, .act, .call 39 [(.tmp 43), (.tmp 44)]⟩,
     ⟨(some 46), none, .act, .un .not (.tmp 45)⟩])
   (.cond (.tmp 46)
    (.exit 3)
    .skip))
   (.seq (.region [
     ⟨(some 8), none, .act, .mv (.const (.bool true))⟩])
   (.seq (.region [
     ⟨(some 47), none, .act, .fieldAddr 1 (.tmp 10)⟩,
     ⟨(some 48), none, .act, .load false 1 (.tmp 47)⟩,
     ⟨(some 49), none, .act, .mv (.tmp 7)⟩,
     ⟨(some 50), none, .act, .eq true .int (.tmp 48) (.tmp 49)⟩])
   (.cond (.tmp 50)
    (.seq (.region [
      ⟨(some 4), none, .act, .mv (.const (.bool false))⟩])
    .ret)
    .skip))))))
  (.region [
    ⟨(some 51), none, .act, .bin .add (.tmp 38) (.const (.int .i64 1))⟩,
    ⟨(some 38), none, .act, .mv (.tmp 51)⟩]))))
def r22l0 : RCode :=
  (.seq (.region [
    ⟨(some 23), none, .act, .bin .lss (.tmp 22) (.tmp 21)⟩])
  (.seq (.cond (.tmp 23)
   .skip
   (.exit 0))
  (.seq (.block 1
   (.seq (.region [
     ⟨(some 24), none, .act, .indexAddr 1 (.tmp 20) (.tmp 22)⟩,
     ⟨(some 25), none, .act, .load false 1 (.tmp 24)⟩,
     ⟨(some 6), none, .act, .mv (.tmp 25)⟩])
   (.seq (.seq (.region [
     ⟨(some 26), none, .act, .load true 8 (.tmp 3)⟩,
     ⟨(some 27), none, .act, .mv (.tmp 6)⟩,
     ⟨(some 28), none, .act, .call 29 [(.tmp 26), (.tmp 27)]⟩,
     ⟨(some 29), none, .act, .un .not (.tmp 28)⟩])
   (.cond (.tmp 29)
    (.exit 1)
    .skip))
   (.seq (.region [
     ⟨(some 30), none, .act, .mv (.tmp 0)⟩,
     ⟨(some 31), none, .act, .mv (.tmp 6)⟩,
     ⟨(some 32), none, .act, .fieldAddr 3 (.tmp 3)⟩,
     ⟨(some 33), none, .act, .load false 1 (.tmp 32)⟩,
     ⟨(some 34), none, .act, .call 38 [(.tmp 30), (.tmp 31), (.tmp 33)]⟩,
     ⟨(some 7), none, .act, .mv (.tmp 34)⟩,
     ⟨(some 8), none, .act, .mv (.const (.bool false))⟩])
   (.seq (.seq (.region [
     ⟨(some 35), none, .act, .fieldAddr 6 (.tmp 3)⟩,
     ⟨(some 36), none, .act, .load false 1 (.tmp 35)⟩,
     ⟨(some 37), none, .act, .len (.tmp 36)⟩,
     ⟨(some 38), none, .act, .mv (.const (.int .i64 0))⟩])
   (.block 2
    (.loop r22l1)))
   (.seq (.region [
     ⟨(some 52), none, .act, .mv (.tmp 8)⟩,
     ⟨(some 53), none, .act, .un .not (.tmp 52)⟩,
     ⟨(some 54), none, .act, .mv (.tmp 53)⟩,
     ⟨(some 55), (some (54, true)), .act, .mv (.tmp 7)⟩,
     ⟨(some 56), (some (54, true)), .act, .eq true .int (.tmp 55) (.const (.int .u64 0))⟩,
     ⟨(some 57), none, .act, .pick (.tmp 54) (.tmp 56) (.const (.bool false))⟩])
   (.cond (.tmp 57)
    (.seq (.region [
      ⟨(some 4), none, .act, .mv (.const (.bool false))⟩])
    .ret)
    .skip)))))))
  (.region [
    ⟨(some 58), none, .act, .bin .add (.tmp 22) (.const (.int .i64 1))⟩,
    ⟨(some 22), none, .act, .mv (.tmp 58)⟩]))))
def r22 : RCode :=
  (.seq (.region [
    ⟨(some 3), none, .act, .box (.tmp 1)⟩,
    ⟨(some 4), none, .act, .mv (.const (.bool false))⟩])
  (.seq (.seq (.region [
    ⟨(some 11), none, .act, .fieldAddr 2 (.tmp 3)⟩,
    ⟨(some 12), none, .act, .load false 1 (.tmp 11)⟩,
    ⟨(some 13), none, .act, .eq true .int (.tmp 12) (.const (.int .i64 1))⟩,
    ⟨(some 14), none, .act, .mv (.tmp 13)⟩,
    ⟨(some 15), (some (14, false)), .act, .fieldAddr 1 (.tmp 3)⟩,
    ⟨(some 16), (some (14, false)), .act, .load false 1 (.tmp 15)⟩,
    ⟨(some 17), (some (14, false)), .act, .eq true .int (.tmp 16) (.const (.int .i64 3))⟩,
    ⟨(some 18), none, .act, .pick (.tmp 14) (.const (.bool true)) (.tmp 17)⟩])
  (.cond (.tmp 18)
   (.seq (.region [
     ⟨(some 4), none, .act, .mv (.const (.bool true))⟩])
   .ret)
   .skip))
  (.seq (.seq (.region [
    ⟨(some 19), none, .act, .mv (.tmp 0)⟩,
    ⟨(some 20), none, .act, .call 25 [(.tmp 19)]⟩,
    ⟨(some 21), none, .act, .len (.tmp 20)⟩,
    ⟨(some 22), none, .act, .mv (.const (.int .i64 0))⟩])
  (.block 0
   (.loop r22l0)))
  (.seq (.region [
    ⟨(some 4), none, .act, .mv (.const (.bool true))⟩])
  .ret))))
theorem res22 : ∃ c, Try.f22.body = some c ∧ resCode Try.prog 59 c = some r22 := ⟨_, rfl, by kernel_rfl⟩
theorem rr22 : resRes Try.prog Try.f22.results.toList = some [.tmp 4] := by kernel_rfl
theorem fok22 : FOk Try.prog 22 ⟨r22, 59, [.tmp 4]⟩ := by
  obtain ⟨c, h1, h2⟩ := res22
  exact ⟨by kernel_rfl, _, c, Try.func22, h1, Try.ntmps22, ⟨_, h2⟩, rr22⟩
def r23l1 : RCode :=
  (.seq (.region [
    ⟨(some 31), none, .act, .bin .lss (.tmp 30) (.tmp 29)⟩])
  (.seq (.cond (.tmp 31)
   .skip
   (.exit 2))
  (.seq (.block 3
   (.seq (.region [
     ⟨(some 32), none, .act, .indexAddr 1 (.tmp 28) (.tmp 30)⟩,
     ⟨(some 33), none, .act, .load false 1 (.tmp 32)⟩,
     ⟨(some 8), none, .act, .mv (.tmp 33)⟩])
   (.seq (.region [
     ⟨(some 35), none, .act, .mv (.tmp 0)⟩,
     ⟨(some 36), none, .act, .mv (.tmp 8)⟩,
     ⟨(some 37), none, .act, .call 28 [(.tmp 35), (.tmp 36)]⟩,
     ⟨(some 34), none, .act, .mv (.tmp 37)⟩,
     ⟨(some 38), none, .act, .extract (.tmp 34) 0⟩,
     ⟨(some 39), none, .act, .extract (.tmp 34) 1⟩,
     ⟨(some 9), none, .act, .alloc [(.int .u64 0), (.int .i64 0), (.int .i64 0), (.int .u64 0), (.int .u64 0), (.slice none 0 0), (.slice none 0 0), (.slice none 0 0)]⟩,
     ⟨none, none, .act, .store 8 (.tmp 9) (.tmp 38)⟩,
     ⟨(some 10), none, .act, .mv (.tmp 39)⟩])
   (.seq (.region [
     ⟨(some 40), none, .act, .mv (.tmp 10)⟩,
     ⟨(some 41), none, .act, .mv (.tmp 40)⟩,
     ⟨(some 42), (some (41, true)), .act, .mv (.tmp 8)⟩,
     ⟨(some 43), (some (41, true)), .act, .fieldAddr 0 (.tmp 3)⟩,
     ⟨(some 44), (some (41, true)), .act, .load false 1 (.tmp 43)⟩,
     ⟨(some 45), (some (41, true)), .act, .eq true .int (.tmp 42) (.tmp 44)⟩,
     ⟨(some 46), none, .act, .pick (.tmp 41) (.tmp 45) (.const (.bool false))⟩,
     ⟨(some 47), none, .act, .mv (.tmp 46)⟩,
     ⟨(some 48), (some (47, true)), .act, .fieldAddr 4 (.tmp 9)⟩,
     ⟨(some 49), (some (47, true)), .act, .load false 1 (.tmp 48)⟩,
     ⟨(some 50), (some (47, true)), .act, .fieldAddr 3 (.tmp 3)⟩,
     ⟨(some 51), (some (47, true)), .act, .load false 1 (.tmp 50)⟩,
     ⟨(some 52), (some (47, true)), .act, .bin .gtr (.tmp 49) (.tmp 51)⟩,
     ⟨(some 53), none, .act, .pick (.tmp 47) (.tmp 52) (.const (.bool false))⟩,
     ⟨(some 54), none, .act, .mv (.tmp 53)⟩,
     ⟨(some 55), (some (54, true)), .act, .fieldAddr 4 (.tmp 9)⟩,
     ⟨(some 56), (some (54, true)), .act, .load false 1 (.tmp 55)⟩,
     ⟨(some 57), (some (54, true)), .act, .fieldAddr 4 (.tmp 3)⟩,
     ⟨(some 58), (some (54, true)), .act, .load false 1 (.tmp 57)⟩,
     ⟨(some 59), (some (54, true)), .act, .bin .lss (.tmp 56) (.tmp 58)⟩,
     ⟨(some 60), none, .act, .pick (.tmp 54) (.tmp 59) (.const (.bool false))⟩])
   (.cond (.tmp 60)
    (.seq (.region [
      ⟨(some 4), none, .act, .mv (.const (.bool false))⟩])
    .ret)
    .skip)))))
  (.region [
    ⟨(some 61), none, .act, .bin .add (.tmp 30) (.const (.int .i64 1))⟩,
    ⟨(some 30), none, .act, .mv (.tmp 61)⟩]))))
def r23l0 : RCode :=
  (.seq (.region [
    ⟨(some 23), none, .act, .bin .lss (.tmp 22) (.tmp 21)⟩])
  (.seq (.cond (.tmp 23)
   .skip
   (.exit 0))
  (.seq (.block 1
   (.seq (.region [
     ⟨(some 24), none, .act, .indexAddr 1 (.tmp 20) (.tmp 22)⟩,
     ⟨(some 25), none, .act, .load false 1 (.tmp 24)⟩,
     ⟨(some 6), none, .act, .mv (.tmp 25)⟩])
   (.seq (.region [
     ⟨(some 26), none, .act, .mv (.tmp 0)⟩,
     ⟨(some 27), none, .act, .mv (.tmp 6)⟩,
     ⟨(some 28), none, .act, .call 26 [(.tmp 26), (.tmp 27)]⟩,
     ⟨(some 29), none, .act, .len (.tmp 28)⟩,
     ⟨(some 30), none, .act, .mv (.const (.int .i64 0))⟩])
   (.block 2
    (.loop r23l1)))))
  (.region [
    ⟨(some 62), none, .act, .bin .add (.tmp 22) (.const (.int .i64 1))⟩,
    ⟨(some 22), none, .act, .mv (.tmp 62)⟩]))))
def r23 : RCode :=
  (.seq (.region [
    ⟨(some 3), none, .act, .box (.tmp 1)⟩,
    ⟨(some 4), none, .act, .mv (.const (.bool false))⟩])
  (.seq (.seq (.region [
    ⟨(some 11), none, .act, .fieldAddr 2 (.tmp 3)⟩,
    ⟨(some 12), none, .act, .load false 1 (.tmp 11)⟩,
    ⟨(some 13), none, .act, .eq true .int (.tmp 12) (.const (.int .i64 1))⟩,
    ⟨(some 14), none, .act, .mv (.tmp 13)⟩,
    ⟨(some 15), (some (14, false)), .act, .fieldAddr 1 (.tmp 3)⟩,
    ⟨(some 16), (some (14, false)), .act, .load false 1 (.tmp 15)⟩,
    ⟨(some 17), (some (14, false)), .act, .eq true .int (.tmp 16) (.const (.int .i64 3))⟩,
    ⟨(some 18), none, .act, .pick (.tmp 14) (.const (.bool true)) (.tmp 17)⟩])
  (.cond (.tmp 18)
   (.seq (.region [
     ⟨(some 4), none, .act, .mv (.const (.bool true))⟩])
   .ret)
   .skip))
  (.seq (.seq (.region [
    ⟨(some 19), none, .act, .fieldAddr 5 (.tmp 3)⟩,
    ⟨(some 20), none, .act, .load false 1 (.tmp 19)⟩,
    ⟨(some 21), none, .act, .len (.tmp 20)⟩,
    ⟨(some 22), none, .act, .mv (.const (.int .i64 0))⟩])
  (.block 0
   (.loop r23l0)))
  (.seq (.region [
    ⟨(some 4), none, .act, .mv (.const (.bool true))⟩])
  .ret))))
theorem res23 : ∃ c, Try.f23.body = some c ∧ resCode Try.prog 63 c = some r23 := ⟨_, rfl, by kernel_rfl⟩
theorem rr23 : resRes Try.prog Try.f23.results.toList = some [.tmp 4] := by kernel_rfl
theorem fok23 : FOk Try.prog 23 ⟨r23, 63, [.tmp 4]⟩ := by
  obtain ⟨c, h1, h2⟩ := res23
  exact ⟨by kernel_rfl, _, c, Try.func23, h1, Try.ntmps23, ⟨_, h2⟩, rr23⟩
def r24l0 : RCode :=
  (.seq (.region [
    ⟨(some 13), none, .act, .bin .lss (.tmp 12) (.tmp 11)⟩])
  (.seq (.cond (.tmp 13)
   .skip
   (.exit 0))
  (.seq (.block 1
   (.seq (.region [
     ⟨(some 14), none, .act, .indexAddr 3 (.tmp 10) (.tmp 12)⟩,
     ⟨(some 15), none, .act, .load true 3 (.tmp 14)⟩,
     ⟨(some 6), none, .act, .alloc [(.int .u64 0), (.int .u64 0), (.int .i64 0)]⟩,
     ⟨none, none, .act, .store 3 (.tmp 6) (.tmp 15)⟩])
   (.region [
     ⟨(some 16), none, .act, .mv (.tmp 4)⟩,
     ⟨(some 17), none, .act, .fieldAddr 0 (.tmp 6)⟩,
     ⟨(some 18), none, .act, .load false 1 (.tmp 17)⟩,
     ⟨(some 19), none, .act, .fieldAddr 1 (.tmp 6)⟩,
     ⟨(some 20), none, .act, .load false 1 (.tmp 19)⟩,
     ⟨(some 21), none, .act, .build [(.int .u64 0), (.int .u64 0)] [(0, 1, (.tmp 18)), (1, 1, (.tmp 20))]⟩,
     ⟨(some 22), none, .act, .buildSl 2 [(.int .u64 0), (.int .u64 0)] 1 [(0, (.tmp 21))]⟩,
     ⟨(some 23), none, .act, .append 2 16 [(.int .u64 0), (.int .u64 0)] (.tmp 16) (.tmp 22)⟩,
     ⟨(some 4), none, .act, .mv (.tmp 23)⟩])))
  (.region [
    ⟨(some 24), none, .act, .bin .add (.tmp 12) (.const (.int .i64 1))⟩,
    ⟨(some 12), none, .act, .mv (.tmp 24)⟩]))))
def r24l1 : RCode :=
  (.seq (.region [
    ⟨(some 28), none, .act, .bin .lss (.tmp 27) (.tmp 26)⟩])
  (.seq (.cond (.tmp 28)
   .skip
   (.exit 2))
  (.seq (.block 3
   (.seq (.region [
     ⟨(some 29), none, .act, .indexAddr 8 (.tmp 25) (.tmp 27)⟩,
     ⟨(some 30), none, .act, .load true 8 (.tmp 29)⟩,
     ⟨(some 8), none, .act, .alloc [(.int .u64 0), (.int .i64 0), (.int .i64 0), (.int .u64 0), (.int .u64 0), (.slice none 0 0), (.slice none 0 0), (.slice none 0 0)]⟩,
     ⟨none, none, .act, .store 8 (.tmp 8) (.tmp 30)⟩])
   (.seq (.region [
     ⟨(some 31), none, .act, .mv (.tmp 4)⟩,
     ⟨(some 32), none, .act, .fieldAddr 0 (.tmp 8)⟩,
     ⟨(some 33), none, .act, .load false 1 (.tmp 32)⟩,
     ⟨(some 34), none, .act, .call 40 [(.tmp 31), (.tmp 33)]⟩,
     ⟨(some 35), none, .act, .eq true .slice (.tmp 34) (.const (.slice none 0 0))⟩])
   (.cond (.tmp 35)
    (.seq (.region [
      ⟨(some 36), none, .act, .fieldAddr 0 (.tmp 8)⟩,
      ⟨(some 37), none, .act, .load false 1 (.tmp 36)⟩,
      ⟨(some 2), none, .act, .mv (.tmp 37)⟩,
      ⟨(some 3), none, .act, .mv (.const (.bool true))⟩])
    .ret)
    .skip))))
  (.region [
    ⟨(some 38), none, .act, .bin .add (.tmp 27) (.const (.int .i64 1))⟩,
    ⟨(some 27), none, .act, .mv (.tmp 38)⟩]))))
def r24 : RCode :=
  (.seq (.region [
    ⟨(some 2), none, .act, .mv (.const (.int .u64 0))⟩,
    ⟨(some 3), none, .act, .mv (.const (.bool false))⟩])
  (.seq (.region [
    ⟨(some 4), none, .act, .mv (.const (.slice none 0 0))⟩])
  (.seq (.seq (.region [
    ⟨(some 9), none, .act, .mv (.tmp 0)⟩,
    ⟨(some 10), none, .act, .call 7 [(.tmp 9)]⟩,
    ⟨(some 11), none, .act, .len (.tmp 10)⟩,
    ⟨(some 12), none, .act, .mv (.const (.int .i64 0))⟩])
  (.block 0
   (.loop r24l0)))
  (.seq (.seq (.region [
    ⟨(some 25), none, .act, .mv (.tmp 0)⟩,
    ⟨(some 26), none, .act, .len (.tmp 25)⟩,
    ⟨(some 27), none, .act, .mv (.const (.int .i64 0))⟩])
  (.block 2
   (.loop r24l1)))
  (.seq (.region [
    ⟨(some 2), none, .act, .mv (.const (.int .u64 0))⟩,
    ⟨(some 3), none, .act, .mv (.const (.bool false))⟩])
  .ret)))))
theorem res24 : ∃ c, Try.f24.body = some c ∧ resCode Try.prog 39 c = some r24 := ⟨_, rfl, by kernel_rfl⟩
theorem rr24 : resRes Try.prog Try.f24.results.toList = some [.tmp 2, .tmp 3] := by kernel_rfl
theorem fok24 : FOk Try.prog 24 ⟨r24, 39, [.tmp 2, .tmp 3]⟩ := by
  obtain ⟨c, h1, h2⟩ := res24
  exact ⟨by kernel_rfl, _, c, Try.func24, h1, Try.ntmps24, ⟨_, h2⟩, rr24⟩
def r7 : RCode :=
  (.seq (.region [
    ⟨(some 2), none, .act, .mv (.const (.slice none 0 0))⟩])
  (.seq (.region [
    ⟨(some 4), none, .act, .mv (.tmp 0)⟩,
    ⟨(some 5), none, .act, .makeMap⟩,
    ⟨(some 6), none, .act, .build [(.slice none 0 0), (.map none), (.slice none 0 0)] [(0, 1, (.tmp 4)), (1, 1, (.tmp 5))]⟩,
    ⟨(some 7), none, .act, .box (.tmp 6)⟩,
    ⟨(some 3), none, .act, .mv (.tmp 7)⟩])
  (.seq (.region [
    ⟨(some 8), none, .act, .mv (.tmp 3)⟩,
    ⟨(some 9), none, .act, .call 10 [(.tmp 8)]⟩])
  (.seq (.region [
    ⟨(some 10), none, .act, .mv (.tmp 3)⟩,
    ⟨(some 11), none, .act, .call 11 [(.tmp 10)]⟩])
  (.seq (.region [
    ⟨(some 12), none, .act, .mv (.tmp 3)⟩,
    ⟨(some 13), none, .act, .call 12 [(.tmp 12)]⟩])
  (.seq (.region [
    ⟨(some 14), none, .act, .mv (.tmp 3)⟩,
    ⟨(some 15), none, .act, .nilCheck (.tmp 14)⟩,
    ⟨(some 16), none, .act, .fieldAddr 2 (.tmp 15)⟩,
    ⟨(some 17), none, .act, .load false 1 (.tmp 16)⟩,
    ⟨(some 2), none, .act, .mv (.tmp 17)⟩])
  .ret))))))
theorem res7 : ∃ c, Try.f7.body = some c ∧ resCode Try.prog 18 c = some r7 := ⟨_, rfl, by kernel_rfl⟩
theorem rr7 : resRes Try.prog Try.f7.results.toList = some [.tmp 2] := by kernel_rfl
theorem fok7 : FOk Try.prog 7 ⟨r7, 18, [.tmp 2]⟩ := by
  obtain ⟨c, h1, h2⟩ := res7
  exact ⟨by kernel_rfl, _, c, Try.func7, h1, Try.ntmps7, ⟨_, h2⟩, rr7⟩
def r10l1 : RCode :=
  (.seq (.seq (.region [
    ⟨(some 22), none, .act, .mv (.tmp 5)⟩,
    ⟨(some 23), none, .act, .mv (.tmp 4)⟩,
    ⟨(some 24), none, .act, .len (.tmp 23)⟩,
    ⟨(some 25), none, .act, .bin .lss (.tmp 22) (.tmp 24)⟩])
  (.cond (.tmp 25)
   .skip
   (.exit 2)))
  (.seq (.block 3
   (.region [
     ⟨(some 28), none, .pure, .mv (.tmp 0)⟩,
     ⟨(some 29), none, .pure, .mv (.tmp 4)⟩,
     ⟨(some 30), none, .pure, .mv (.tmp 5)⟩,
     ⟨(some 31), none, .pure, .bin .sub (.tmp 30) (.const (.int .i64 1))⟩,
     ⟨(some 32), none, .pure, .indexAddr 1 (.tmp 29) (.tmp 31)⟩,
     ⟨(some 33), none, .read, .load false 1 (.tmp 32)⟩,
     ⟨(some 34), none, .pure, .mv (.tmp 4)⟩,
     ⟨(some 35), none, .pure, .mv (.tmp 5)⟩,
     ⟨(some 36), none, .pure, .indexAddr 1 (.tmp 34) (.tmp 35)⟩,
     ⟨(some 37), none, .read, .load false 1 (.tmp 36)⟩,
     ⟨(some 38), none, .pure, .build [(.int .u64 0), (.int .u64 0), (.int .i64 0)] [(0, 1, (.tmp 33)), (1, 1, (.tmp 37)), (2, 1, (.const (.int .i64 1)))]⟩,
     ⟨(some 39), none, .act, .call 27 [(.tmp 28), (.tmp 38)]⟩]))
  (.region [
    ⟨(some 26), none, .act, .mv (.tmp 5)⟩,
    ⟨(some 27), none, .act, .bin .add (.tmp 26) (.const (.int .i64 1))⟩,
    ⟨(some 5), none, .act, .mv (.tmp 27)⟩])))
def r10l0 : RCode :=
  (.seq (.region [
    ⟨(some 13), none, .act, .bin .lss (.tmp 12) (.tmp 11)⟩])
  (.seq (.cond (.tmp 13)
   .skip
   (.exit 0))
  (.seq (.block 1
   (.seq (.region [
     ⟨(some 14), none, .act, .indexAddr 1 (.tmp 10) (.tmp 12)⟩,
     ⟨(some 15), none, .act, .load false 1 (.tmp 14)⟩,
     ⟨(some 3), none, .act, .mv (.tmp 15)⟩])
   (.seq (.region [
     ⟨(some 16), none, .act, .mv (.tmp 0)⟩,
     ⟨(some 17), none, .act, .nilCheck (.tmp 16)⟩,
     ⟨(some 18), none, .act, .fieldAddr 0 (.tmp 17)⟩,
     ⟨(some 19), none, .act, .load false 1 (.tmp 18)⟩,
     ⟨(some 20), none, .act, .mv (.tmp 3)⟩,
     ⟨(some 21), none, .act, .call 26 [(.tmp 19), (.tmp 20)]⟩,
     ⟨(some 4), none, .act, .mv (.tmp 21)⟩])
   (.seq (.region [
     ⟨(some 5), none, .act, .mv (.const (.int .i64 1))⟩])
   (.block 2
    (.loop r10l1))))))
  (.region [
    ⟨(some 40), none, .act, .bin .add (.tmp 12) (.const (.int .i64 1))⟩,
    ⟨(some 12), none, .act, .mv (.tmp 40)⟩]))))
def r10 : RCode :=
  (.seq (.region [
    ⟨(some 6), none, .act, .mv (.tmp 0)⟩,
    ⟨(some 7), none, .act, .nilCheck (.tmp 6)⟩,
    ⟨(some 8), none, .act, .fieldAddr 0 (.tmp 7)⟩,
    ⟨(some 9), none, .act, .load false 1 (.tmp 8)⟩,
    ⟨(some 10), none, .act, .call 25 [(.tmp 9)]⟩,
    ⟨(some 11), none, .act, .len (.tmp 10)⟩,
    ⟨(some 12), none, .act, .mv (.const (.int .i64 0))⟩])
  (.block 0
   (.loop r10l0)))
theorem res10 : ∃ c, Try.f10.body = some c ∧ resCode Try.prog 41 c = some r10 := ⟨_, rfl, by kernel_rfl⟩
theorem rr10 : resRes Try.prog Try.f10.results.toList = some [] := by kernel_rfl
theorem fok10 : FOk Try.prog 10 ⟨r10, 41, []⟩ := by
  obtain ⟨c, h1, h2⟩ := res10
  exact ⟨by kernel_rfl, _, c, Try.func10, h1, Try.ntmps10, ⟨_, h2⟩, rr10⟩
def r25l1 : RCode :=
  (.seq (.region [
    ⟨(some 25), none, .act, .bin .lss (.tmp 24) (.tmp 23)⟩])
  (.seq (.cond (.tmp 25)
   .skip
   (.exit 2))
  (.seq (.block 3
   (.seq (.region [
     ⟨(some 26), none, .act, .indexAddr 1 (.tmp 22) (.tmp 24)⟩,
     ⟨(some 27), none, .act, .load false 1 (.tmp 26)⟩,
     ⟨(some 7), none, .act, .mv (.tmp 27)⟩])
   (.region [
     ⟨(some 28), none, .act, .mv (.tmp 3)⟩,
     ⟨(some 29), none, .act, .mv (.tmp 7)⟩,
     ⟨(some 30), none, .act, .toStr (.tmp 29)⟩,
     ⟨none, none, .act, .mapUpdate 9 (.tmp 28) (.tmp 30) (.const (.bool true))⟩])))
  (.region [
    ⟨(some 31), none, .act, .bin .add (.tmp 24) (.const (.int .i64 1))⟩,
    ⟨(some 24), none, .act, .mv (.tmp 31)⟩]))))
def r25l0 : RCode :=
  (.seq (.region [
    ⟨(some 15), none, .act, .bin .lss (.tmp 14) (.tmp 13)⟩])
  (.seq (.cond (.tmp 15)
   .skip
   (.exit 0))
  (.seq (.block 1
   (.seq (.region [
     ⟨(some 16), none, .act, .indexAddr 8 (.tmp 12) (.tmp 14)⟩,
     ⟨(some 17), none, .act, .load true 8 (.tmp 16)⟩,
     ⟨(some 5), none, .act, .alloc [(.int .u64 0), (.int .i64 0), (.int .i64 0), (.int .u64 0), (.int .u64 0), (.slice none 0 0), (.slice none 0 0), (.slice none 0 0)]⟩,
     ⟨none, none, .act, .store 8 (.tmp 5) (.tmp 17)⟩])
   (.seq (.seq (.region [
     ⟨(some 18), none, .act, .fieldAddr 2 (.tmp 5)⟩,
     ⟨(some 19), none, .act, .load false 1 (.tmp 18)⟩,
     ⟨(some 20), none, .act, .eq true .int (.tmp 19) (.const (.int .i64 1))⟩])
   (.cond (.tmp 20)
    (.exit 1)
    .skip))
   (.seq (.region [
     ⟨(some 21), none, .act, .fieldAddr 5 (.tmp 5)⟩,
     ⟨(some 22), none, .act, .load false 1 (.tmp 21)⟩,
     ⟨(some 23), none, .act, .len (.tmp 22)⟩,
     ⟨(some 24), none, .act, .mv (.const (.int .i64 0))⟩])
   (.block 2
    (.loop r25l1))))))
  (.region [
    ⟨(some 32), none, .act, .bin .add (.tmp 14) (.const (.int .i64 1))⟩,
    ⟨(some 14), none, .act, .mv (.tmp 32)⟩]))))
def r25l2 : RCode :=
  (.seq (.region [
    ⟨(some 38), none, .act, .bin .lss (.tmp 37) (.tmp 36)⟩])
  (.seq (.cond (.tmp 38)
   .skip
   (.exit 4))
  (.seq (.block 5
   (.seq (.region [
     ⟨(some 39), none, .act, .indexAddr 1 (.tmp 35) (.tmp 37)⟩,
     ⟨(some 40), none, .act, .load false 1 (.tmp 39)⟩,
     ⟨(some 10), none, .act, .mv (.tmp 40)⟩])
   (.region [
     ⟨(some 41), none, .act, .mv (.tmp 8)⟩,
     ⟨(some 42), none, .act, .mv (.tmp 10)⟩,
     ⟨(some 43), none, .act, .toBytes (.tmp 42)⟩,
     ⟨(some 44), none, .act, .buildSl 1 [(.slice none 0 0)] 1 [(0, (.tmp 43))]⟩,
     ⟨(some 45), none, .act, .append 1 24 [(.slice none 0 0)] (.tmp 41) (.tmp 44)⟩,
     ⟨(some 8), none, .act, .mv (.tmp 45)⟩])))
  (.region [
    ⟨(some 46), none, .act, .bin .add (.tmp 37) (.const (.int .i64 1))⟩,
    ⟨(some 37), none, .act, .mv (.tmp 46)⟩]))))
def r25 : RCode :=
  (.seq (.region [
    ⟨(some 2), none, .act, .mv (.const (.slice none 0 0))⟩])
  (.seq (.region [
    ⟨(some 11), none, .act, .makeMap⟩,
    ⟨(some 3), none, .act, .mv (.tmp 11)⟩])
  (.seq (.seq (.region [
    ⟨(some 12), none, .act, .mv (.tmp 0)⟩,
    ⟨(some 13), none, .act, .len (.tmp 12)⟩,
    ⟨(some 14), none, .act, .mv (.const (.int .i64 0))⟩])
  (.block 0
   (.loop r25l0)))
  (.seq (.region [
    ⟨(some 8), none, .act, .mv (.const (.slice none 0 0))⟩])
  (.seq (.seq (.region [
    ⟨(some 33), none, .act, .mv (.tmp 3)⟩,
    ⟨(some 34), none, .act, .call 42 [(.tmp 33)]⟩,
    ⟨(some 35), none, .act, .call 41 [(.tmp 34)]⟩,
    ⟨(some 36), none, .act, .len (.tmp 35)⟩,
    ⟨(some 37), none, .act, .mv (.const (.int .i64 0))⟩])
  (.block 4
   (.loop r25l2)))
  (.seq (.region [
    ⟨(some 47), none, .act, .mv (.tmp 8)⟩,
    ⟨(some 2), none, .act, .mv (.tmp 47)⟩])
  .ret))))))
theorem res25 : ∃ c, Try.f25.body = some c ∧ resCode Try.prog 48 c = some r25 := ⟨_, rfl, by kernel_rfl⟩
theorem rr25 : resRes Try.prog Try.f25.results.toList = some [.tmp 2] := by kernel_rfl
theorem fok25 : FOk Try.prog 25 ⟨r25, 48, [.tmp 2]⟩ := by
  obtain ⟨c, h1, h2⟩ := res25
  exact ⟨by kernel_rfl, _, c, Try.func25, h1, Try.ntmps25, ⟨_, h2⟩, rr25⟩
def r42 : RCode :=
  (.seq (.region [
    ⟨(some 1), none, .act, .box (.tmp 0)⟩,
    ⟨(some 2), none, .act, .mv (.const .nilFunc)⟩])
  (.seq (.region [
    ⟨(some 3), none, .act, .makeFunc (.func 61) [] [(.tmp 1)]⟩,
    ⟨(some 2), none, .act, .mv (.tmp 3)⟩])
  .ret))
theorem res42 : ∃ c, Try.f42.body = some c ∧ resCode Try.prog 4 c = some r42 := ⟨_, rfl, by kernel_rfl⟩
theorem rr42 : resRes Try.prog Try.f42.results.toList = some [.tmp 2] := by kernel_rfl
theorem fok42 : FOk Try.prog 42 ⟨r42, 4, [.tmp 2]⟩ := by
  obtain ⟨c, h1, h2⟩ := res42
  exact ⟨by kernel_rfl, _, c, Try.func42, h1, Try.ntmps42, ⟨_, h2⟩, rr42⟩
def r41 : RCode :=
  (.seq (.region [
    ⟨(some 2), none, .act, .mv (.const (.slice none 0 0))⟩])
  (.seq (.region [
    ⟨(some 4), none, .act, .mv (.tmp 0)⟩,
    ⟨(some 5), none, .act, .call 59 [(.tmp 4)]⟩,
    ⟨(some 3), none, .act, .mv (.tmp 5)⟩])
  (.seq (.region [
    ⟨(some 6), none, .act, .mv (.tmp 3)⟩,
    ⟨(some 7), none, .act, .call 60 [(.tmp 6)]⟩])
  (.seq (.region [
    ⟨(some 8), none, .act, .mv (.tmp 3)⟩,
    ⟨(some 2), none, .act, .mv (.tmp 8)⟩])
  .ret))))
theorem res41 : ∃ c, Try.f41.body = some c ∧ resCode Try.prog 9 c = some r41 := ⟨_, rfl, by kernel_rfl⟩
theorem rr41 : resRes Try.prog Try.f41.results.toList = some [.tmp 2] := by kernel_rfl
theorem fok41 : FOk Try.prog 41 ⟨r41, 9, [.tmp 2]⟩ := by
  obtain ⟨c, h1, h2⟩ := res41
  exact ⟨by kernel_rfl, _, c, Try.func41, h1, Try.ntmps41, ⟨_, h2⟩, rr41⟩
def r59 : RCode :=
  (.seq (.region [
    ⟨(some 2), none, .act, .mv (.const (.slice none 0 0))⟩])
  (.seq (.region [
    ⟨(some 3), none, .act, .mv (.tmp 0)⟩,
    ⟨(some 4), none, .act, .call 68 [(.const (.slice none 0 0)), (.tmp 3)]⟩,
    ⟨(some 2), none, .act, .mv (.tmp 4)⟩])
  .ret))
theorem res59 : ∃ c, Try.f59.body = some c ∧ resCode Try.prog 5 c = some r59 := ⟨_, rfl, by kernel_rfl⟩
theorem rr59 : resRes Try.prog Try.f59.results.toList = some [.tmp 2] := by kernel_rfl
theorem fok59 : FOk Try.prog 59 ⟨r59, 5, [.tmp 2]⟩ := by
  obtain ⟨c, h1, h2⟩ := res59
  exact ⟨by kernel_rfl, _, c, Try.func59, h1, Try.ntmps59, ⟨_, h2⟩, rr59⟩
def r68b0 : RCode :=
  (.block 1
   (.region [
     ⟨(some 8), none, .act, .load false 1 (.tmp 2)⟩,
     ⟨(some 9), none, .act, .mv (.tmp 5)⟩,
     ⟨(some 10), none, .act, .buildSl 1 [(.string ⟨#[]⟩)] 1 [(0, (.tmp 9))]⟩,
     ⟨(some 11), none, .act, .append 1 16 [(.string ⟨#[]⟩)] (.tmp 8) (.tmp 10)⟩,
     ⟨none, none, .act, .store 1 (.tmp 2) (.tmp 11)⟩]))
def r68 : RCode :=
  (.seq (.region [
    ⟨(some 2), none, .act, .box (.tmp 0)⟩,
    ⟨(some 4), none, .act, .mv (.const (.slice none 0 0))⟩])
  (.seq (.seq (.region [
    ⟨(some 6), none, .act, .mv (.tmp 1)⟩])
  (.block 0
   (.rangeFunc (.tmp 6) #[7] (.region [
    ⟨(some 5), none, .act, .mv (.tmp 7)⟩]) r68b0)))
  (.seq (.region [
    ⟨(some 12), none, .act, .load false 1 (.tmp 2)⟩,
    ⟨(some 4), none, .act, .mv (.tmp 12)⟩])
  .ret)))
theorem res68 : ∃ c, Try.f68.body = some c ∧ resCode Try.prog 13 c = some r68 := ⟨_, rfl, by kernel_rfl⟩
theorem rr68 : resRes Try.prog Try.f68.results.toList = some [.tmp 4] := by kernel_rfl
theorem fok68 : FOk Try.prog 68 ⟨r68, 13, [.tmp 4]⟩ := by
  obtain ⟨c, h1, h2⟩ := res68
  exact ⟨by kernel_rfl, _, c, Try.func68, h1, Try.ntmps68, ⟨_, h2⟩, rr68⟩
def r61l0 : RCode :=
  (.seq (.region [
    ⟨(some 6), none, .act, .nextMap (.tmp 5)⟩,
    ⟨(some 7), none, .act, .extract (.tmp 6) 0⟩])
  (.seq (.cond (.tmp 7)
   .skip
   (.exit 0))
  (.block 1
   (.seq (.region [
     ⟨(some 8), none, .act, .entryMap (.tmp 5)⟩,
     ⟨(some 9), none, .act, .extract (.tmp 8) 0⟩,
     ⟨(some 3), none, .act, .mv (.tmp 9)⟩])
   (.seq (.region [
     ⟨(some 10), none, .act, .mv (.tmp 0)⟩,
     ⟨(some 11), none, .act, .mv (.tmp 3)⟩,
     ⟨(some 12), none, .act, .callv (.tmp 10) [(.tmp 11)]⟩,
     ⟨(some 13), none, .act, .un .not (.tmp 12)⟩])
   (.cond (.tmp 13)
    .ret
    .skip))))))
def r61 : RCode :=
  (.seq (.region [
    ⟨(some 4), none, .act, .load false 1 (.tmp 1)⟩,
    ⟨(some 5), none, .act, .rangeMap (.tmp 4)⟩])
  (.block 0
   (.loop r61l0)))
theorem res61 : ∃ c, Try.f61.body = some c ∧ resCode Try.prog 14 c = some r61 := ⟨_, rfl, by kernel_rfl⟩
theorem rr61 : resRes Try.prog Try.f61.results.toList = some [] := by kernel_rfl
theorem fok61 : FOk Try.prog 61 ⟨r61, 14, []⟩ := by
  obtain ⟨c, h1, h2⟩ := res61
  exact ⟨by kernel_rfl, _, c, Try.func61, h1, Try.ntmps61, ⟨_, h2⟩, rr61⟩
def r60 : RCode :=
  (.seq (.region [
    ⟨(some 3), none, .act, .mv (.tmp 0)⟩,
    ⟨(some 4), none, .act, .len (.tmp 3)⟩,
    ⟨(some 2), none, .act, .mv (.tmp 4)⟩])
  (.region [
    ⟨(some 5), none, .act, .mv (.tmp 0)⟩,
    ⟨(some 6), none, .act, .mv (.tmp 2)⟩,
    ⟨(some 7), none, .act, .mv (.tmp 2)⟩,
    ⟨(some 8), none, .act, .convInt .u64 (.tmp 7)⟩,
    ⟨(some 9), none, .act, .call 70 [(.tmp 8)]⟩,
    ⟨(some 10), none, .act, .call 69 [(.tmp 5), (.const (.int .i64 0)), (.tmp 6), (.tmp 9)]⟩]))
theorem res60 : ∃ c, Try.f60.body = some c ∧ resCode Try.prog 11 c = some r60 := ⟨_, rfl, by kernel_rfl⟩
theorem rr60 : resRes Try.prog Try.f60.results.toList = some [] := by kernel_rfl
theorem fok60 : FOk Try.prog 60 ⟨r60, 11, []⟩ := by
  obtain ⟨c, h1, h2⟩ := res60
  exact ⟨by kernel_rfl, _, c, Try.func60, h1, Try.ntmps60, ⟨_, h2⟩, rr60⟩
def r70 : RCode :=
  (.seq (.region [
    ⟨(some 2), none, .act, .mv (.const (.int .i64 0))⟩])
  (.seq (.cond (.const (.bool false))
   (.seq (.region [
     ⟨(some 3), none, .act, .mv (.tmp 0)⟩,
     ⟨(some 4), none, .act, .convInt .u32 (.tmp 3)⟩,
     ⟨(some 5), none, .act, .call 83 [(.tmp 4)]⟩,
     ⟨(some 2), none, .act, .mv (.tmp 5)⟩])
   .ret)
   .skip)
  (.seq (.region [
    ⟨(some 6), none, .act, .mv (.tmp 0)⟩,
    ⟨(some 7), none, .act, .call 84 [(.tmp 6)]⟩,
    ⟨(some 2), none, .act, .mv (.tmp 7)⟩])
  .ret)))
theorem res70 : ∃ c, Try.f70.body = some c ∧ resCode Try.prog 8 c = some r70 := ⟨_, rfl, by kernel_rfl⟩
theorem rr70 : resRes Try.prog Try.f70.results.toList = some [.tmp 2] := by kernel_rfl
theorem fok70 : FOk Try.prog 70 ⟨r70, 8, [.tmp 2]⟩ := by
  obtain ⟨c, h1, h2⟩ := res70
  exact ⟨by kernel_rfl, _, c, Try.func70, h1, Try.ntmps70, ⟨_, h2⟩, rr70⟩
def r84 : RCode :=
  (.seq (.region [
    ⟨(some 2), none, .act, .mv (.const (.int .i64 0))⟩])
  (.seq (.seq (.region [
    ⟨(some 3), none, .act, .mv (.tmp 0)⟩,
    ⟨(some 4), none, .act, .bin .geq (.tmp 3) (.const (.int .u64 4294967296))⟩])
  (.cond (.tmp 4)
   (.seq (.region [
     ⟨(some 5), none, .act, .mv (.tmp 0)⟩,
     ⟨(some 6), none, .act, .bin .shr (.tmp 5) (.const (.int .u64 32))⟩,
     ⟨(some 0), none, .act, .mv (.tmp 6)⟩])
   (.region [
     ⟨(some 2), none, .act, .mv (.const (.int .i64 32))⟩]))
   .skip))
  (.seq (.seq (.region [
    ⟨(some 7), none, .act, .mv (.tmp 0)⟩,
    ⟨(some 8), none, .act, .bin .geq (.tmp 7) (.const (.int .u64 65536))⟩])
  (.cond (.tmp 8)
   (.seq (.region [
     ⟨(some 9), none, .act, .mv (.tmp 0)⟩,
     ⟨(some 10), none, .act, .bin .shr (.tmp 9) (.const (.int .u64 16))⟩,
     ⟨(some 0), none, .act, .mv (.tmp 10)⟩])
   (.region [
     ⟨(some 11), none, .act, .mv (.tmp 2)⟩,
     ⟨(some 12), none, .act, .bin .add (.tmp 11) (.const (.int .i64 16))⟩,
     ⟨(some 2), none, .act, .mv (.tmp 12)⟩]))
   .skip))
  (.seq (.seq (.region [
    ⟨(some 13), none, .act, .mv (.tmp 0)⟩,
    ⟨(some 14), none, .act, .bin .geq (.tmp 13) (.const (.int .u64 256))⟩])
  (.cond (.tmp 14)
   (.seq (.region [
     ⟨(some 15), none, .act, .mv (.tmp 0)⟩,
     ⟨(some 16), none, .act, .bin .shr (.tmp 15) (.const (.int .u64 8))⟩,
     ⟨(some 0), none, .act, .mv (.tmp 16)⟩])
   (.region [
     ⟨(some 17), none, .act, .mv (.tmp 2)⟩,
     ⟨(some 18), none, .act, .bin .add (.tmp 17) (.const (.int .i64 8))⟩,
     ⟨(some 2), none, .act, .mv (.tmp 18)⟩]))
   .skip))
  (.seq (.region [
    ⟨(some 19), none, .act, .mv (.tmp 2)⟩,
    ⟨(some 20), none, .act, .mv (.tmp 0)⟩,
    ⟨(some 21), none, .act, .convInt .u8 (.tmp 20)⟩,
    ⟨(some 22), none, .act, .indexStr (.const (.string ⟨#[0, 1, 2, 2, 3, 3, 3, 3, 4, 4, 4, 4, 4, 4, 4, 4, 5, 5, 5, 5, 5, 5, 5, 5, 5, 5, 5, 5, 5, 5, 5, 5, 6, 6, 6, 6, 6, 6, 6, 6, 6, 6, 6, 6, 6, 6, 6, 6, 6, 6, 6, 6, 6, 6, 6, 6, 6, 6, 6, 6, 6, 6, 6, 6, 7, 7, 7, 7, 7, 7, 7, 7, 7, 7, 7, 7, 7, 7, 7, 7, 7, 7, 7, 7, 7, 7, 7, 7, 7, 7, 7, 7, 7, 7, 7, 7, 7, 7, 7, 7, 7, 7, 7, 7, 7, 7, 7, 7, 7, 7, 7, 7, 7, 7, 7, 7, 7, 7, 7, 7, 7, 7, 7, 7, 7, 7, 7, 7, 8, 8, 8, 8, 8, 8, 8, 8, 8, 8, 8, 8, 8, 8, 8, 8, 8, 8, 8, 8, 8, 8, 8, 8, 8, 8, 8, 8, 8, 8, 8, 8, 8, 8, 8, 8, 8, 8, 8, 8, 8, 8, 8, 8, 8, 8, 8, 8, 8, 8, 8, 8, 8, 8, 8, 8, 8, 8, 8, 8, 8, 8, 8, 8, 8, 8, 8, 8, 8, 8, 8, 8, 8, 8, 8, 8, 8, 8, 8, 8, 8, 8, 8, 8, 8, 8, 8, 8, 8, 8, 8, 8, 8, 8, 8, 8, 8, 8, 8, 8, 8, 8, 8, 8, 8, 8, 8, 8, 8, 8, 8, 8, 8, 8, 8, 8, 8, 8, 8, 8, 8, 8, 8, 8, 8, 8, 8, 8]⟩)) (.tmp 21)⟩,
    ⟨(some 23), none, .act, .convInt .i64 (.tmp 22)⟩,
    ⟨(some 24), none, .act, .bin .add (.tmp 19) (.tmp 23)⟩,
    ⟨(some 2), none, .act, .mv (.tmp 24)⟩])
  .ret)))))
theorem res84 : ∃ c, Try.f84.body = some c ∧ resCode Try.prog 25 c = some r84 := ⟨_, rfl, by kernel_rfl⟩
theorem rr84 : resRes Try.prog Try.f84.results.toList = some [.tmp 2] := by kernel_rfl
theorem fok84 : FOk Try.prog 84 ⟨r84, 25, [.tmp 2]⟩ := by
  obtain ⟨c, h1, h2⟩ := res84
  exact ⟨by kernel_rfl, _, c, Try.func84, h1, Try.ntmps84, ⟨_, h2⟩, rr84⟩
def r69l0 : RCode :=
  (.block 1
   (.seq (.region [
     ⟨(some 19), none, .act, .mv (.tmp 2)⟩,
     ⟨(some 20), none, .act, .mv (.tmp 1)⟩,
     ⟨(some 21), none, .act, .bin .sub (.tmp 19) (.tmp 20)⟩,
     ⟨(some 10), none, .act, .mv (.tmp 21)⟩])
   (.seq (.seq (.region [
     ⟨(some 22), none, .act, .mv (.tmp 10)⟩,
     ⟨(some 23), none, .act, .bin .leq (.tmp 22) (.const (.int .i64 12))⟩])
   (.cond (.tmp 23)
    (.seq (.region [
      ⟨(some 24), none, .act, .mv (.tmp 0)⟩,
      ⟨(some 25), none, .act, .mv (.tmp 1)⟩,
      ⟨(some 26), none, .act, .mv (.tmp 2)⟩,
      ⟨(some 27), none, .act, .call 74 [(.tmp 24), (.tmp 25), (.tmp 26)]⟩])
    .ret)
    .skip))
   (.seq (.seq (.region [
     ⟨(some 28), none, .act, .mv (.tmp 3)⟩,
     ⟨(some 29), none, .act, .eq false .int (.tmp 28) (.const (.int .i64 0))⟩])
   (.cond (.tmp 29)
    (.seq (.region [
      ⟨(some 30), none, .act, .mv (.tmp 0)⟩,
      ⟨(some 31), none, .act, .mv (.tmp 1)⟩,
      ⟨(some 32), none, .act, .mv (.tmp 2)⟩,
      ⟨(some 33), none, .act, .call 75 [(.tmp 30), (.tmp 31), (.tmp 32)]⟩])
    .ret)
    .skip))
   (.seq (.seq (.region [
     ⟨(some 34), none, .act, .mv (.tmp 8)⟩,
     ⟨(some 35), none, .act, .un .not (.tmp 34)⟩])
   (.cond (.tmp 35)
    (.seq (.region [
      ⟨(some 36), none, .act, .mv (.tmp 0)⟩,
      ⟨(some 37), none, .act, .mv (.tmp 1)⟩,
      ⟨(some 38), none, .act, .mv (.tmp 2)⟩,
      ⟨(some 39), none, .act, .call 76 [(.tmp 36), (.tmp 37), (.tmp 38)]⟩])
    (.region [
      ⟨(some 40), none, .act, .mv (.tmp 3)⟩,
      ⟨(some 41), none, .act, .bin .sub (.tmp 40) (.const (.int .i64 1))⟩,
      ⟨(some 3), none, .act, .mv (.tmp 41)⟩]))
    .skip))
   (.seq (.region [
     ⟨(some 43), none, .act, .mv (.tmp 0)⟩,
     ⟨(some 44), none, .act, .mv (.tmp 1)⟩,
     ⟨(some 45), none, .act, .mv (.tmp 2)⟩,
     ⟨(some 46), none, .act, .call 77 [(.tmp 43), (.tmp 44), (.tmp 45)]⟩,
     ⟨(some 42), none, .act, .mv (.tmp 46)⟩,
     ⟨(some 47), none, .act, .extract (.tmp 42) 0⟩,
     ⟨(some 48), none, .act, .extract (.tmp 42) 1⟩,
     ⟨(some 11), none, .act, .mv (.tmp 47)⟩,
     ⟨(some 12), none, .act, .mv (.tmp 48)⟩])
   (.seq (.seq (.region [
     ⟨(some 49), none, .act, .mv (.tmp 12)⟩,
     ⟨(some 50), none, .act, .eq false .int (.tmp 49) (.const (.int .i64 2))⟩])
   (.cond (.tmp 50)
    (.seq (.region [
      ⟨(some 51), none, .act, .mv (.tmp 0)⟩,
      ⟨(some 52), none, .act, .mv (.tmp 1)⟩,
      ⟨(some 53), none, .act, .mv (.tmp 2)⟩,
      ⟨(some 54), none, .act, .call 78 [(.tmp 51), (.tmp 52), (.tmp 53)]⟩])
    (.seq (.region [
      ⟨(some 55), none, .act, .mv (.tmp 2)⟩,
      ⟨(some 56), none, .act, .bin .sub (.tmp 55) (.const (.int .i64 1))⟩,
      ⟨(some 57), none, .act, .mv (.tmp 11)⟩,
      ⟨(some 58), none, .act, .mv (.tmp 1)⟩,
      ⟨(some 59), none, .act, .bin .sub (.tmp 57) (.tmp 58)⟩,
      ⟨(some 60), none, .act, .bin .sub (.tmp 56) (.tmp 59)⟩,
      ⟨(some 11), none, .act, .mv (.tmp 60)⟩])
    (.region [
      ⟨(some 12), none, .act, .mv (.const (.int .i64 1))⟩])))
    .skip))
   (.seq (.seq (.region [
     ⟨(some 61), none, .act, .mv (.tmp 8)⟩,
     ⟨(some 62), none, .act, .mv (.tmp 61)⟩,
     ⟨(some 63), (some (62, true)), .act, .mv (.tmp 9)⟩,
     ⟨(some 64), none, .act, .pick (.tmp 62) (.tmp 63) (.const (.bool false))⟩,
     ⟨(some 65), none, .act, .mv (.tmp 64)⟩,
     ⟨(some 66), (some (65, true)), .act, .mv (.tmp 12)⟩,
     ⟨(some 67), (some (65, true)), .act, .eq false .int (.tmp 66) (.const (.int .i64 1))⟩,
     ⟨(some 68), none, .act, .pick (.tmp 65) (.tmp 67) (.const (.bool false))⟩])
   (.cond (.tmp 68)
    (.seq (.region [
      ⟨(some 69), none, .act, .mv (.tmp 0)⟩,
      ⟨(some 70), none, .act, .mv (.tmp 1)⟩,
      ⟨(some 71), none, .act, .mv (.tmp 2)⟩,
      ⟨(some 72), none, .act, .call 79 [(.tmp 69), (.tmp 70), (.tmp 71)]⟩])
    (.cond (.tmp 72)
     .ret
     .skip))
    .skip))
   (.seq (.seq (.region [
     ⟨(some 73), none, .pure, .mv (.tmp 1)⟩,
     ⟨(some 74), none, .pure, .bin .gtr (.tmp 73) (.const (.int .i64 0))⟩,
     ⟨(some 75), none, .pure, .mv (.tmp 74)⟩,
     ⟨(some 76), (some (75, true)), .pure, .mv (.tmp 0)⟩,
     ⟨(some 77), (some (75, true)), .pure, .mv (.tmp 1)⟩,
     ⟨(some 78), (some (75, true)), .pure, .bin .sub (.tmp 77) (.const (.int .i64 1))⟩,
     ⟨(some 79), (some (75, true)), .pure, .indexAddr 1 (.tmp 76) (.tmp 78)⟩,
     ⟨(some 80), (some (75, true)), .read, .load false 1 (.tmp 79)⟩,
     ⟨(some 81), (some (75, true)), .pure, .mv (.tmp 0)⟩,
     ⟨(some 82), (some (75, true)), .pure, .mv (.tmp 11)⟩,
     ⟨(some 83), (some (75, true)), .pure, .indexAddr 1 (.tmp 81) (.tmp 82)⟩,
     ⟨(some 84), (some (75, true)), .read, .load false 1 (.tmp 83)⟩,
     ⟨(some 85), (some (75, true)), .act, .call 80 [(.tmp 80), (.tmp 84)]⟩,
     ⟨(some 86), (some (75, true)), .pure, .un .not (.tmp 85)⟩,
     ⟨(some 87), none, .pure, .pick (.tmp 75) (.tmp 86) (.const (.bool false))⟩])
   (.cond (.tmp 87)
    (.seq (.region [
      ⟨(some 88), none, .act, .mv (.tmp 0)⟩,
      ⟨(some 89), none, .act, .mv (.tmp 1)⟩,
      ⟨(some 90), none, .act, .mv (.tmp 2)⟩,
      ⟨(some 91), none, .act, .mv (.tmp 11)⟩,
      ⟨(some 92), none, .act, .call 81 [(.tmp 88), (.tmp 89), (.tmp 90), (.tmp 91)]⟩,
      ⟨(some 13), none, .act, .mv (.tmp 92)⟩])
    (.seq (.region [
      ⟨(some 93), none, .act, .mv (.tmp 13)⟩,
      ⟨(some 1), none, .act, .mv (.tmp 93)⟩])
    (.exit 1)))
    .skip))
   (.seq (.region [
     ⟨(some 95), none, .act, .mv (.tmp 0)⟩,
     ⟨(some 96), none, .act, .mv (.tmp 1)⟩,
     ⟨(some 97), none, .act, .mv (.tmp 2)⟩,
     ⟨(some 98), none, .act, .mv (.tmp 11)⟩,
     ⟨(some 99), none, .act, .call 82 [(.tmp 95), (.tmp 96), (.tmp 97), (.tmp 98)]⟩,
     ⟨(some 94), none, .act, .mv (.tmp 99)⟩,
     ⟨(some 100), none, .act, .extract (.tmp 94) 0⟩,
     ⟨(some 101), none, .act, .extract (.tmp 94) 1⟩,
     ⟨(some 14), none, .act, .mv (.tmp 100)⟩,
     ⟨(some 15), none, .act, .mv (.tmp 101)⟩])
   (.seq (.region [
     ⟨(some 102), none, .act, .mv (.tmp 15)⟩,
     ⟨(some 9), none, .act, .mv (.tmp 102)⟩])
   (.seq (.region [
     ⟨(some 103), none, .act, .mv (.tmp 14)⟩,
     ⟨(some 104), none, .act, .mv (.tmp 1)⟩,
     ⟨(some 105), none, .act, .bin .sub (.tmp 103) (.tmp 104)⟩,
     ⟨(some 106), none, .act, .mv (.tmp 2)⟩,
     ⟨(some 107), none, .act, .mv (.tmp 14)⟩,
     ⟨(some 108), none, .act, .bin .sub (.tmp 106) (.tmp 107)⟩,
     ⟨(some 16), none, .act, .mv (.tmp 105)⟩,
     ⟨(some 17), none, .act, .mv (.tmp 108)⟩])
   (.seq (.region [
     ⟨(some 109), none, .act, .mv (.tmp 10)⟩,
     ⟨(some 110), none, .act, .bin .quo (.tmp 109) (.const (.int .i64 8))⟩,
     ⟨(some 18), none, .act, .mv (.tmp 110)⟩])
   (.seq (.region [
     ⟨(some 111), none, .act, .mv (.tmp 16)⟩,
     ⟨(some 112), none, .act, .mv (.tmp 17)⟩,
     ⟨(some 113), none, .act, .bin .lss (.tmp 111) (.tmp 112)⟩])
   (.cond (.tmp 113)
    (.seq (.region [
      ⟨(some 114), none, .act, .mv (.tmp 16)⟩,
      ⟨(some 115), none, .act, .mv (.tmp 18)⟩,
      ⟨(some 116), none, .act, .bin .geq (.tmp 114) (.tmp 115)⟩,
      ⟨(some 8), none, .act, .mv (.tmp 116)⟩])
    (.seq (.region [
      ⟨(some 117), none, .act, .mv (.tmp 0)⟩,
      ⟨(some 118), none, .act, .mv (.tmp 1)⟩,
      ⟨(some 119), none, .act, .mv (.tmp 14)⟩,
      ⟨(some 120), none, .act, .mv (.tmp 3)⟩,
      ⟨(some 121), none, .act, .call 69 [(.tmp 117), (.tmp 118), (.tmp 119), (.tmp 120)]⟩])
    (.region [
      ⟨(some 122), none, .act, .mv (.tmp 14)⟩,
      ⟨(some 123), none, .act, .bin .add (.tmp 122) (.const (.int .i64 1))⟩,
      ⟨(some 1), none, .act, .mv (.tmp 123)⟩])))
    (.seq (.region [
      ⟨(some 124), none, .act, .mv (.tmp 17)⟩,
      ⟨(some 125), none, .act, .mv (.tmp 18)⟩,
      ⟨(some 126), none, .act, .bin .geq (.tmp 124) (.tmp 125)⟩,
      ⟨(some 8), none, .act, .mv (.tmp 126)⟩])
    (.seq (.region [
      ⟨(some 127), none, .act, .mv (.tmp 0)⟩,
      ⟨(some 128), none, .act, .mv (.tmp 14)⟩,
      ⟨(some 129), none, .act, .bin .add (.tmp 128) (.const (.int .i64 1))⟩,
      ⟨(some 130), none, .act, .mv (.tmp 2)⟩,
      ⟨(some 131), none, .act, .mv (.tmp 3)⟩,
      ⟨(some 132), none, .act, .call 69 [(.tmp 127), (.tmp 129), (.tmp 130), (.tmp 131)]⟩])
    (.region [
      ⟨(some 133), none, .act, .mv (.tmp 14)⟩,
      ⟨(some 2), none, .act, .mv (.tmp 133)⟩]))))))))))))))))))
def r69 : RCode :=
  (.seq (.region [
    ⟨(some 8), none, .act, .mv (.const (.bool true))⟩])
  (.seq (.region [
    ⟨(some 9), none, .act, .mv (.const (.bool true))⟩])
  (.block 0
   (.loop r69l0))))
theorem res69 : ∃ c, Try.f69.body = some c ∧ resCode Try.prog 134 c = some r69 := ⟨_, rfl, by kernel_rfl⟩
theorem rr69 : resRes Try.prog Try.f69.results.toList = some [] := by kernel_rfl
theorem fok69 : FOk Try.prog 69 ⟨r69, 134, []⟩ := by
  obtain ⟨c, h1, h2⟩ := res69
  exact ⟨by kernel_rfl, _, c, Try.func69, h1, Try.ntmps69, ⟨_, h2⟩, rr69⟩
def r74l1 : RCode :=
  (.seq (.seq (.region [
    ⟨(some 16), none, .pure, .mv (.tmp 7)⟩,
    ⟨(some 17), none, .pure, .mv (.tmp 1)⟩,
    ⟨(some 18), none, .pure, .bin .gtr (.tmp 16) (.tmp 17)⟩,
    ⟨(some 19), none, .pure, .mv (.tmp 18)⟩,
    ⟨(some 20), (some (19, true)), .pure, .mv (.tmp 0)⟩,
    ⟨(some 21), (some (19, true)), .pure, .mv (.tmp 7)⟩,
    ⟨(some 22), (some (19, true)), .pure, .indexAddr 1 (.tmp 20) (.tmp 21)⟩,
    ⟨(some 23), (some (19, true)), .read, .load false 1 (.tmp 22)⟩,
    ⟨(some 24), (some (19, true)), .pure, .mv (.tmp 0)⟩,
    ⟨(some 25), (some (19, true)), .pure, .mv (.tmp 7)⟩,
    ⟨(some 26), (some (19, true)), .pure, .bin .sub (.tmp 25) (.const (.int .i64 1))⟩,
    ⟨(some 27), (some (19, true)), .pure, .indexAddr 1 (.tmp 24) (.tmp 26)⟩,
    ⟨(some 28), (some (19, true)), .read, .load false 1 (.tmp 27)⟩,
    ⟨(some 29), (some (19, true)), .act, .call 80 [(.tmp 23), (.tmp 28)]⟩,
    ⟨(some 30), none, .pure, .pick (.tmp 19) (.tmp 29) (.const (.bool false))⟩])
  (.cond (.tmp 30)
   .skip
   (.exit 2)))
  (.seq (.block 3
   (.region [
     ⟨(some 33), none, .pure, .mv (.tmp 0)⟩,
     ⟨(some 34), none, .pure, .mv (.tmp 7)⟩,
     ⟨(some 35), none, .pure, .mv (.tmp 0)⟩,
     ⟨(some 36), none, .pure, .mv (.tmp 7)⟩,
     ⟨(some 37), none, .pure, .bin .sub (.tmp 36) (.const (.int .i64 1))⟩,
     ⟨(some 38), none, .pure, .mv (.tmp 0)⟩,
     ⟨(some 39), none, .pure, .mv (.tmp 7)⟩,
     ⟨(some 40), none, .pure, .bin .sub (.tmp 39) (.const (.int .i64 1))⟩,
     ⟨(some 41), none, .pure, .indexAddr 1 (.tmp 38) (.tmp 40)⟩,
     ⟨(some 42), none, .read, .load false 1 (.tmp 41)⟩,
     ⟨(some 43), none, .pure, .mv (.tmp 0)⟩,
     ⟨(some 44), none, .pure, .mv (.tmp 7)⟩,
     ⟨(some 45), none, .pure, .indexAddr 1 (.tmp 43) (.tmp 44)⟩,
     ⟨(some 46), none, .read, .load false 1 (.tmp 45)⟩,
     ⟨(some 47), none, .pure, .indexAddr 1 (.tmp 33) (.tmp 34)⟩,
     ⟨none, none, .act, .store 1 (.tmp 47) (.tmp 42)⟩,
     ⟨(some 48), none, .pure, .indexAddr 1 (.tmp 35) (.tmp 37)⟩,
     ⟨none, none, .act, .store 1 (.tmp 48) (.tmp 46)⟩]))
  (.region [
    ⟨(some 31), none, .act, .mv (.tmp 7)⟩,
    ⟨(some 32), none, .act, .bin .sub (.tmp 31) (.const (.int .i64 1))⟩,
    ⟨(some 7), none, .act, .mv (.tmp 32)⟩])))
def r74l0 : RCode :=
  (.seq (.seq (.region [
    ⟨(some 10), none, .act, .mv (.tmp 6)⟩,
    ⟨(some 11), none, .act, .mv (.tmp 2)⟩,
    ⟨(some 12), none, .act, .bin .lss (.tmp 10) (.tmp 11)⟩])
  (.cond (.tmp 12)
   .skip
   (.exit 0)))
  (.seq (.block 1
   (.seq (.region [
     ⟨(some 15), none, .act, .mv (.tmp 6)⟩,
     ⟨(some 7), none, .act, .mv (.tmp 15)⟩])
   (.block 2
    (.loop r74l1))))
  (.region [
    ⟨(some 13), none, .act, .mv (.tmp 6)⟩,
    ⟨(some 14), none, .act, .bin .add (.tmp 13) (.const (.int .i64 1))⟩,
    ⟨(some 6), none, .act, .mv (.tmp 14)⟩])))
def r74 : RCode :=
  (.seq (.region [
    ⟨(some 8), none, .act, .mv (.tmp 1)⟩,
    ⟨(some 9), none, .act, .bin .add (.tmp 8) (.const (.int .i64 1))⟩,
    ⟨(some 6), none, .act, .mv (.tmp 9)⟩])
  (.block 0
   (.loop r74l0)))
theorem res74 : ∃ c, Try.f74.body = some c ∧ resCode Try.prog 49 c = some r74 := ⟨_, rfl, by kernel_rfl⟩
theorem rr74 : resRes Try.prog Try.f74.results.toList = some [] := by kernel_rfl
theorem fok74 : FOk Try.prog 74 ⟨r74, 49, []⟩ := by
  obtain ⟨c, h1, h2⟩ := res74
  exact ⟨by kernel_rfl, _, c, Try.func74, h1, Try.ntmps74, ⟨_, h2⟩, rr74⟩
def r11l1 : RCode :=
  (.seq (.region [
    ⟨(some 24), none, .act, .bin .lss (.tmp 23) (.tmp 22)⟩])
  (.seq (.cond (.tmp 24)
   .skip
   (.exit 2))
  (.seq (.block 3
   (.seq (.region [
     ⟨(some 25), none, .act, .indexAddr 4 (.tmp 21) (.tmp 23)⟩,
     ⟨(some 26), none, .act, .load true 4 (.tmp 25)⟩,
     ⟨(some 5), none, .act, .alloc [(.slice none 0 0), (.int .u64 0), (.int .u64 0), (.slice none 0 0)]⟩,
     ⟨none, none, .act, .store 4 (.tmp 5) (.tmp 26)⟩])
   (.seq (.regionT (.step ⟨(some 28), none, .pure, .mv (.tmp 0)⟩ (.step ⟨(some 29), none, .pure, .nilCheck (.tmp 28)⟩ (.step ⟨(some 30), none, .pure, .fieldAddr 0 (.tmp 29)⟩ (.step ⟨(some 32), none, .pure, .fieldAddr 2 (.tmp 5)⟩ (.alt ⟨(some 31), none, .read, .load false 1 (.tmp 30)⟩ (.alt ⟨(some 33), none, .read, .load false 1 (.tmp 32)⟩ (.alt ⟨(some 34), none, .read, .call 28 [(.tmp 31), (.tmp 33)]⟩ (.step ⟨(some 27), none, .pure, .mv (.tmp 34)⟩ (.step ⟨(some 35), none, .pure, .extract (.tmp 27) 0⟩ (.step ⟨(some 36), none, .pure, .extract (.tmp 27) 1⟩ (.alt ⟨(some 6), none, .act, .alloc [(.int .u64 0), (.int .i64 0), (.int .i64 0), (.int .u64 0), (.int .u64 0), (.slice none 0 0), (.slice none 0 0), (.slice none 0 0)]⟩ (.alt ⟨none, none, .act, .store 8 (.tmp 6) (.tmp 35)⟩ (.step ⟨(some 7), none, .pure, .mv (.tmp 36)⟩ .done)
    .stop)
    .stop))))
    (.alt ⟨(some 6), none, .act, .alloc [(.int .u64 0), (.int .i64 0), (.int .i64 0), (.int .u64 0), (.int .u64 0), (.slice none 0 0), (.slice none 0 0), (.slice none 0 0)]⟩ (.step ⟨(some 34), none, .read, .call 28 [(.tmp 31), (.tmp 33)]⟩ (.step ⟨(some 27), none, .pure, .mv (.tmp 34)⟩ (.step ⟨(some 35), none, .pure, .extract (.tmp 27) 0⟩ (.step ⟨(some 36), none, .pure, .extract (.tmp 27) 1⟩ (.alt ⟨none, none, .act, .store 8 (.tmp 6) (.tmp 35)⟩ (.step ⟨(some 7), none, .pure, .mv (.tmp 36)⟩ .done)
    .stop)))))
    .stop))
    (.alt ⟨(some 6), none, .act, .alloc [(.int .u64 0), (.int .i64 0), (.int .i64 0), (.int .u64 0), (.int .u64 0), (.slice none 0 0), (.slice none 0 0), (.slice none 0 0)]⟩ (.step ⟨(some 33), none, .read, .load false 1 (.tmp 32)⟩ (.step ⟨(some 34), none, .read, .call 28 [(.tmp 31), (.tmp 33)]⟩ (.step ⟨(some 27), none, .pure, .mv (.tmp 34)⟩ (.step ⟨(some 35), none, .pure, .extract (.tmp 27) 0⟩ (.step ⟨(some 36), none, .pure, .extract (.tmp 27) 1⟩ (.alt ⟨none, none, .act, .store 8 (.tmp 6) (.tmp 35)⟩ (.step ⟨(some 7), none, .pure, .mv (.tmp 36)⟩ .done)
    .stop))))))
    .stop))
    (.alt ⟨(some 33), none, .read, .load false 1 (.tmp 32)⟩ (.alt ⟨(some 31), none, .read, .load false 1 (.tmp 30)⟩ (.alt ⟨(some 34), none, .read, .call 28 [(.tmp 31), (.tmp 33)]⟩ (.step ⟨(some 27), none, .pure, .mv (.tmp 34)⟩ (.step ⟨(some 35), none, .pure, .extract (.tmp 27) 0⟩ (.step ⟨(some 36), none, .pure, .extract (.tmp 27) 1⟩ (.alt ⟨(some 6), none, .act, .alloc [(.int .u64 0), (.int .i64 0), (.int .i64 0), (.int .u64 0), (.int .u64 0), (.slice none 0 0), (.slice none 0 0), (.slice none 0 0)]⟩ (.alt ⟨none, none, .act, .store 8 (.tmp 6) (.tmp 35)⟩ (.step ⟨(some 7), none, .pure, .mv (.tmp 36)⟩ .done)
    .stop)
    .stop))))
    (.alt ⟨(some 6), none, .act, .alloc [(.int .u64 0), (.int .i64 0), (.int .i64 0), (.int .u64 0), (.int .u64 0), (.slice none 0 0), (.slice none 0 0), (.slice none 0 0)]⟩ (.step ⟨(some 34), none, .read, .call 28 [(.tmp 31), (.tmp 33)]⟩ (.step ⟨(some 27), none, .pure, .mv (.tmp 34)⟩ (.step ⟨(some 35), none, .pure, .extract (.tmp 27) 0⟩ (.step ⟨(some 36), none, .pure, .extract (.tmp 27) 1⟩ (.alt ⟨none, none, .act, .store 8 (.tmp 6) (.tmp 35)⟩ (.step ⟨(some 7), none, .pure, .mv (.tmp 36)⟩ .done)
    .stop)))))
    .stop))
    (.alt ⟨(some 6), none, .act, .alloc [(.int .u64 0), (.int .i64 0), (.int .i64 0), (.int .u64 0), (.int .u64 0), (.slice none 0 0), (.slice none 0 0), (.slice none 0 0)]⟩ (.step ⟨(some 31), none, .read, .load false 1 (.tmp 30)⟩ (.step ⟨(some 34), none, .read, .call 28 [(.tmp 31), (.tmp 33)]⟩ (.step ⟨(some 27), none, .pure, .mv (.tmp 34)⟩ (.step ⟨(some 35), none, .pure, .extract (.tmp 27) 0⟩ (.step ⟨(some 36), none, .pure, .extract (.tmp 27) 1⟩ (.alt ⟨none, none, .act, .store 8 (.tmp 6) (.tmp 35)⟩ (.step ⟨(some 7), none, .pure, .mv (.tmp 36)⟩ .done)
    .stop))))))
    .stop))
    (.alt ⟨(some 6), none, .act, .alloc [(.int .u64 0), (.int .i64 0), (.int .i64 0), (.int .u64 0), (.int .u64 0), (.slice none 0 0), (.slice none 0 0), (.slice none 0 0)]⟩ (.step ⟨(some 31), none, .read, .load false 1 (.tmp 30)⟩ (.step ⟨(some 33), none, .read, .load false 1 (.tmp 32)⟩ (.step ⟨(some 34), none, .read, .call 28 [(.tmp 31), (.tmp 33)]⟩ (.step ⟨(some 27), none, .pure, .mv (.tmp 34)⟩ (.step ⟨(some 35), none, .pure, .extract (.tmp 27) 0⟩ (.step ⟨(some 36), none, .pure, .extract (.tmp 27) 1⟩ (.alt ⟨none, none, .act, .store 8 (.tmp 6) (.tmp 35)⟩ (.step ⟨(some 7), none, .pure, .mv (.tmp 36)⟩ .done)
    .stop)))))))
    .stop))))))))
   (.seq (.region [
     ⟨(some 37), none, .act, .mv (.tmp 7)⟩,
     ⟨(some 38), none, .act, .mv (.tmp 37)⟩,
     ⟨(some 39), (some (38, true)), .act, .fieldAddr 1 (.tmp 5)⟩,
     ⟨(some 40), (some (38, true)), .act, .load false 1 (.tmp 39)⟩,
     ⟨(some 41), (some (38, true)), .act, .bin .gtr (.tmp 40) (.const (.int .u64 0))⟩,
     ⟨(some 42), none, .act, .pick (.tmp 38) (.tmp 41) (.const (.bool false))⟩,
     ⟨(some 43), none, .act, .mv (.tmp 42)⟩,
     ⟨(some 44), (some (43, true)), .act, .fieldAddr 2 (.tmp 5)⟩,
     ⟨(some 45), (some (43, true)), .act, .load false 1 (.tmp 44)⟩,
     ⟨(some 46), (some (43, true)), .act, .fieldAddr 0 (.tmp 3)⟩,
     ⟨(some 47), (some (43, true)), .act, .load false 1 (.tmp 46)⟩,
     ⟨(some 48), (some (43, true)), .act, .eq true .int (.tmp 45) (.tmp 47)⟩,
     ⟨(some 49), none, .act, .pick (.tmp 43) (.tmp 48) (.const (.bool false))⟩])
   (.cond (.tmp 49)
    (.region [
      ⟨(some 50), none, .act, .mv (.tmp 0)⟩,
      ⟨(some 51), none, .act, .fieldAddr 2 (.tmp 5)⟩,
      ⟨(some 52), none, .act, .load false 1 (.tmp 51)⟩,
      ⟨(some 53), none, .act, .fieldAddr 0 (.tmp 3)⟩,
      ⟨(some 54), none, .act, .load false 1 (.tmp 53)⟩,
      ⟨(some 55), none, .act, .build [(.int .u64 0), (.int .u64 0), (.int .i64 0)] [(0, 1, (.tmp 52)), (1, 1, (.tmp 54)), (2, 1, (.const (.int .i64 2)))]⟩,
      ⟨(some 56), none, .act, .call 27 [(.tmp 50), (.tmp 55)]⟩])
    .skip)))))
  (.region [
    ⟨(some 57), none, .act, .bin .add (.tmp 23) (.const (.int .i64 1))⟩,
    ⟨(some 23), none, .act, .mv (.tmp 57)⟩]))))
def r11l0 : RCode :=
  (.seq (.region [
    ⟨(some 14), none, .act, .bin .lss (.tmp 13) (.tmp 12)⟩])
  (.seq (.cond (.tmp 14)
   .skip
   (.exit 0))
  (.seq (.block 1
   (.seq (.region [
     ⟨(some 15), none, .act, .indexAddr 8 (.tmp 11) (.tmp 13)⟩,
     ⟨(some 16), none, .act, .load true 8 (.tmp 15)⟩,
     ⟨(some 3), none, .act, .alloc [(.int .u64 0), (.int .i64 0), (.int .i64 0), (.int .u64 0), (.int .u64 0), (.slice none 0 0), (.slice none 0 0), (.slice none 0 0)]⟩,
     ⟨none, none, .act, .store 8 (.tmp 3) (.tmp 16)⟩])
   (.seq (.seq (.region [
     ⟨(some 17), none, .act, .fieldAddr 2 (.tmp 3)⟩,
     ⟨(some 18), none, .act, .load false 1 (.tmp 17)⟩,
     ⟨(some 19), none, .act, .eq true .int (.tmp 18) (.const (.int .i64 1))⟩])
   (.cond (.tmp 19)
    (.exit 1)
    .skip))
   (.seq (.region [
     ⟨(some 20), none, .act, .fieldAddr 6 (.tmp 3)⟩,
     ⟨(some 21), none, .act, .load false 1 (.tmp 20)⟩,
     ⟨(some 22), none, .act, .len (.tmp 21)⟩,
     ⟨(some 23), none, .act, .mv (.const (.int .i64 0))⟩])
   (.block 2
    (.loop r11l1))))))
  (.region [
    ⟨(some 58), none, .act, .bin .add (.tmp 13) (.const (.int .i64 1))⟩,
    ⟨(some 13), none, .act, .mv (.tmp 58)⟩]))))
def r11 : RCode :=
  (.seq (.region [
    ⟨(some 8), none, .act, .mv (.tmp 0)⟩,
    ⟨(some 9), none, .act, .nilCheck (.tmp 8)⟩,
    ⟨(some 10), none, .act, .fieldAddr 0 (.tmp 9)⟩,
    ⟨(some 11), none, .act, .load false 1 (.tmp 10)⟩,
    ⟨(some 12), none, .act, .len (.tmp 11)⟩,
    ⟨(some 13), none, .act, .mv (.const (.int .i64 0))⟩])
  (.block 0
   (.loop r11l0)))
theorem res11 : ∃ c, Try.f11.body = some c ∧ resCode Try.prog 59 c = some r11 := ⟨_, rfl, by kernel_rfl⟩
theorem rr11 : resRes Try.prog Try.f11.results.toList = some [] := by kernel_rfl
theorem fok11 : FOk Try.prog 11 ⟨r11, 59, []⟩ := by
  obtain ⟨c, h1, h2⟩ := res11
  exact ⟨by kernel_rfl, _, c, Try.func11, h1, Try.ntmps11, ⟨_, h2⟩, rr11⟩
def r12l1 : RCode :=
  (.seq (.region [
    ⟨(some 34), none, .act, .bin .lss (.tmp 33) (.tmp 32)⟩])
  (.seq (.cond (.tmp 34)
   .skip
   (.exit 2))
  (.seq (.block 3
   (.seq (.region [
     ⟨(some 35), none, .act, .indexAddr 1 (.tmp 31) (.tmp 33)⟩,
     ⟨(some 36), none, .act, .load false 1 (.tmp 35)⟩,
     ⟨(some 6), none, .act, .mv (.tmp 36)⟩])
   (.seq (.seq (.region [
     ⟨(some 37), none, .act, .load true 8 (.tmp 4)⟩,
     ⟨(some 38), none, .act, .mv (.tmp 6)⟩,
     ⟨(some 39), none, .act, .call 29 [(.tmp 37), (.tmp 38)]⟩,
     ⟨(some 40), none, .act, .un .not (.tmp 39)⟩])
   (.cond (.tmp 40)
    (.exit 3)
    .skip))
   (.seq (.region [
     ⟨(some 42), none, .act, .mv (.tmp 0)⟩,
     ⟨(some 43), none, .act, .mv (.tmp 6)⟩,
     ⟨(some 44), none, .act, .load true 8 (.tmp 4)⟩,
     ⟨(some 45), none, .act, .mv (.tmp 6)⟩,
     ⟨(some 46), none, .act, .call 31 [(.tmp 44), (.tmp 45)]⟩,
     ⟨(some 47), none, .act, .call 30 [(.tmp 42), (.tmp 43), (.tmp 46)]⟩,
     ⟨(some 41), none, .act, .mv (.tmp 47)⟩,
     ⟨(some 48), none, .act, .extract (.tmp 41) 0⟩,
     ⟨(some 49), none, .act, .extract (.tmp 41) 1⟩,
     ⟨(some 7), none, .act, .mv (.tmp 48)⟩,
     ⟨(some 8), none, .act, .mv (.tmp 49)⟩])
   (.seq (.region [
     ⟨(some 50), none, .act, .mv (.tmp 8)⟩,
     ⟨(some 51), none, .act, .mv (.tmp 50)⟩,
     ⟨(some 52), (some (51, true)), .act, .mv (.tmp 7)⟩,
     ⟨(some 53), (some (51, true)), .act, .fieldAddr 0 (.tmp 4)⟩,
     ⟨(some 54), (some (51, true)), .act, .load false 1 (.tmp 53)⟩,
     ⟨(some 55), (some (51, true)), .act, .eq true .int (.tmp 52) (.tmp 54)⟩,
     ⟨(some 56), none, .act, .pick (.tmp 51) (.tmp 55) (.const (.bool false))⟩])
   (.cond (.tmp 56)
    (.region [
      ⟨(some 57), none, .act, .mv (.tmp 0)⟩,
      ⟨(some 58), none, .act, .fieldAddr 0 (.tmp 4)⟩,
      ⟨(some 59), none, .act, .load false 1 (.tmp 58)⟩,
      ⟨(some 60), none, .act, .mv (.tmp 7)⟩,
      ⟨(some 61), none, .act, .build [(.int .u64 0), (.int .u64 0), (.int .i64 0)] [(0, 1, (.tmp 59)), (1, 1, (.tmp 60)), (2, 1, (.const (.int .i64 3)))]⟩,
      ⟨(some 62), none, .act, .call 27 [(.tmp 57), (.tmp 61)]⟩])
    .skip))))))
  (.region [
    ⟨(some 63), none, .act, .bin .add (.tmp 33) (.const (.int .i64 1))⟩,
    ⟨(some 33), none, .act, .mv (.tmp 63)⟩]))))
def r12l0 : RCode :=
  (.seq (.region [
    ⟨(some 20), none, .act, .bin .lss (.tmp 19) (.tmp 18)⟩])
  (.seq (.cond (.tmp 20)
   .skip
   (.exit 0))
  (.seq (.block 1
   (.seq (.region [
     ⟨(some 21), none, .act, .indexAddr 8 (.tmp 17) (.tmp 19)⟩,
     ⟨(some 22), none, .act, .load true 8 (.tmp 21)⟩,
     ⟨(some 4), none, .act, .alloc [(.int .u64 0), (.int .i64 0), (.int .i64 0), (.int .u64 0), (.int .u64 0), (.slice none 0 0), (.slice none 0 0), (.slice none 0 0)]⟩,
     ⟨none, none, .act, .store 8 (.tmp 4) (.tmp 22)⟩])
   (.seq (.seq (.region [
     ⟨(some 23), none, .act, .fieldAddr 2 (.tmp 4)⟩,
     ⟨(some 24), none, .act, .load false 1 (.tmp 23)⟩,
     ⟨(some 25), none, .act, .eq true .int (.tmp 24) (.const (.int .i64 1))⟩,
     ⟨(some 26), none, .act, .mv (.tmp 25)⟩,
     ⟨(some 27), (some (26, false)), .act, .fieldAddr 1 (.tmp 4)⟩,
     ⟨(some 28), (some (26, false)), .act, .load false 1 (.tmp 27)⟩,
     ⟨(some 29), (some (26, false)), .act, .eq true .int (.tmp 28) (.const (.int .i64 4))⟩,
     ⟨(some 30), none, .act, .pick (.tmp 26) (.const (.bool true)) (.tmp 29)⟩])
   (.cond (.tmp 30)
    (.exit 1)
    .skip))
   (.seq .skip
   (.seq (.region [
     ⟨(some 31), none, .act, .mv (.tmp 2)⟩,
     ⟨(some 32), none, .act, .len (.tmp 31)⟩,
     ⟨(some 33), none, .act, .mv (.const (.int .i64 0))⟩])
   (.block 2
    (.loop r12l1)))))))
  (.region [
    ⟨(some 64), none, .act, .bin .add (.tmp 19) (.const (.int .i64 1))⟩,
    ⟨(some 19), none, .act, .mv (.tmp 64)⟩]))))
def r12 : RCode :=
  (.seq (.region [
    ⟨(some 9), none, .act, .mv (.tmp 0)⟩,
    ⟨(some 10), none, .act, .nilCheck (.tmp 9)⟩,
    ⟨(some 11), none, .act, .fieldAddr 0 (.tmp 10)⟩,
    ⟨(some 12), none, .act, .load false 1 (.tmp 11)⟩,
    ⟨(some 13), none, .act, .call 25 [(.tmp 12)]⟩,
    ⟨(some 2), none, .act, .mv (.tmp 13)⟩])
  (.seq (.region [
    ⟨(some 14), none, .act, .mv (.tmp 0)⟩,
    ⟨(some 15), none, .act, .nilCheck (.tmp 14)⟩,
    ⟨(some 16), none, .act, .fieldAddr 0 (.tmp 15)⟩,
    ⟨(some 17), none, .act, .load false 1 (.tmp 16)⟩,
    ⟨(some 18), none, .act, .len (.tmp 17)⟩,
    ⟨(some 19), none, .act, .mv (.const (.int .i64 0))⟩])
  (.block 0
   (.loop r12l0))))
theorem res12 : ∃ c, Try.f12.body = some c ∧ resCode Try.prog 65 c = some r12 := ⟨_, rfl, by kernel_rfl⟩
theorem rr12 : resRes Try.prog Try.f12.results.toList = some [] := by kernel_rfl
theorem fok12 : FOk Try.prog 12 ⟨r12, 65, []⟩ := by
  obtain ⟨c, h1, h2⟩ := res12
  exact ⟨by kernel_rfl, _, c, Try.func12, h1, Try.ntmps12, ⟨_, h2⟩, rr12⟩
def r40l1 : RCode :=
  (.seq (.seq (.region [
    ⟨(some 28), none, .act, .mv (.tmp 8)⟩,
    ⟨(some 29), none, .act, .load false 1 (.tmp 3)⟩,
    ⟨(some 30), none, .act, .eq true .int (.tmp 28) (.tmp 29)⟩])
  (.cond (.tmp 30)
   .skip
   (.exit 2)))
  (.seq (.block 3
   (.region [
     ⟨(some 34), none, .act, .mv (.tmp 7)⟩,
     ⟨(some 35), none, .act, .mv (.tmp 8)⟩,
     ⟨(some 36), none, .act, .buildSl 1 [(.int .u64 0)] 1 [(0, (.tmp 35))]⟩,
     ⟨(some 37), none, .act, .append 1 8 [(.int .u64 0)] (.tmp 34) (.tmp 36)⟩,
     ⟨(some 7), none, .act, .mv (.tmp 37)⟩]))
  (.region [
    ⟨(some 31), none, .act, .load false 1 (.tmp 5)⟩,
    ⟨(some 32), none, .act, .mv (.tmp 8)⟩,
    ⟨(some 33), none, .act, .lookup 29 (.int .u64 0) (.tmp 31) (.tmp 32) false⟩,
    ⟨(some 8), none, .act, .mv (.tmp 33)⟩])))
def r40b0 : RCode :=
  (.block 1
   (.seq (.region [
     ⟨(some 14), none, .act, .load false 1 (.tmp 5)⟩,
     ⟨(some 15), none, .act, .fieldAddr 1 (.tmp 6)⟩,
     ⟨(some 16), none, .act, .load false 1 (.tmp 15)⟩,
     ⟨(some 17), none, .act, .fieldAddr 0 (.tmp 6)⟩,
     ⟨(some 18), none, .act, .load false 1 (.tmp 17)⟩,
     ⟨none, none, .act, .mapUpdate 29 (.tmp 14) (.tmp 16) (.tmp 18)⟩])
   (.seq (.seq (.region [
     ⟨(some 19), none, .act, .load true 2 (.tmp 6)⟩,
     ⟨(some 20), none, .act, .fieldAddr 0 (.tmp 6)⟩,
     ⟨(some 21), none, .act, .load false 1 (.tmp 20)⟩,
     ⟨(some 22), none, .act, .load false 1 (.tmp 3)⟩,
     ⟨(some 23), none, .act, .build [(.int .u64 0), (.int .u64 0)] [(0, 1, (.tmp 21)), (1, 1, (.tmp 22))]⟩,
     ⟨(some 24), none, .act, .eq true (.agg [(0, .int), (1, .int)]) (.tmp 19) (.tmp 23)⟩])
   (.cond (.tmp 24)
    (.exit 1)
    .skip))
   (.seq (.region [
     ⟨(some 25), none, .act, .buildSl 1 [(.int .u64 0)] 0 []⟩,
     ⟨(some 7), none, .act, .mv (.tmp 25)⟩])
   (.seq (.seq (.region [
     ⟨(some 26), none, .act, .fieldAddr 0 (.tmp 6)⟩,
     ⟨(some 27), none, .act, .load false 1 (.tmp 26)⟩,
     ⟨(some 8), none, .act, .mv (.tmp 27)⟩])
   (.block 2
    (.loop r40l1)))
   (.seq (.region [
     ⟨(some 38), none, .act, .mv (.tmp 7)⟩,
     ⟨(some 39), none, .act, .load false 1 (.tmp 3)⟩,
     ⟨(some 40), none, .act, .buildSl 1 [(.int .u64 0)] 1 [(0, (.tmp 39))]⟩,
     ⟨(some 41), none, .act, .append 1 8 [(.int .u64 0)] (.tmp 38) (.tmp 40)⟩,
     ⟨(some 7), none, .act, .mv (.tmp 41)⟩])
   (.seq (.region [
     ⟨(some 42), none, .act, .mv (.tmp 7)⟩,
     ⟨(some 43), none, .act, .call 58 [(.tmp 42)]⟩])
   (.seq (.region [
     ⟨(some 44), none, .act, .mv (.tmp 7)⟩,
     ⟨none, none, .act, .store 1 (.tmp 4) (.tmp 44)⟩])
   .ret))))))))
def r40 : RCode :=
  (.seq (.region [
    ⟨(some 3), none, .act, .box (.tmp 1)⟩,
    ⟨(some 4), none, .act, .alloc [(.slice none 0 0)]⟩])
  (.seq (.region [
    ⟨(some 9), none, .act, .makeMap⟩,
    ⟨(some 5), none, .act, .alloc [(.map none)]⟩,
    ⟨none, none, .act, .store 1 (.tmp 5) (.tmp 9)⟩])
  (.seq (.seq (.region [
    ⟨(some 10), none, .act, .mv (.tmp 0)⟩,
    ⟨(some 11), none, .act, .load false 1 (.tmp 3)⟩,
    ⟨(some 12), none, .act, .call 57 [(.tmp 10), (.tmp 11)]⟩])
  (.block 0
   (.rangeFunc (.tmp 12) #[13] (.region [
    ⟨(some 6), none, .act, .alloc [(.int .u64 0), (.int .u64 0)]⟩,
    ⟨none, none, .act, .store 2 (.tmp 6) (.tmp 13)⟩]) r40b0)))
  (.seq (.region [
    ⟨none, none, .act, .store 1 (.tmp 4) (.const (.slice none 0 0))⟩])
  .ret))))
theorem res40 : ∃ c, Try.f40.body = some c ∧ resCode Try.prog 45 c = some r40 := ⟨_, rfl, by kernel_rfl⟩
theorem rr40 : resRes Try.prog Try.f40.results.toList = some [.cell 4 false 1] := by kernel_rfl
theorem fok40 : FOk Try.prog 40 ⟨r40, 45, [.cell 4 false 1]⟩ := by
  obtain ⟨c, h1, h2⟩ := res40
  exact ⟨by kernel_rfl, _, c, Try.func40, h1, Try.ntmps40, ⟨_, h2⟩, rr40⟩
def r57 : RCode :=
  (.seq (.region [
    ⟨(some 2), none, .act, .box (.tmp 0)⟩,
    ⟨(some 3), none, .act, .box (.tmp 1)⟩,
    ⟨(some 4), none, .act, .mv (.const .nilFunc)⟩])
  (.seq (.region [
    ⟨(some 5), none, .act, .makeFunc (.func 67) [] [(.tmp 3), (.tmp 2)]⟩,
    ⟨(some 4), none, .act, .mv (.tmp 5)⟩])
  .ret))
theorem res57 : ∃ c, Try.f57.body = some c ∧ resCode Try.prog 6 c = some r57 := ⟨_, rfl, by kernel_rfl⟩
theorem rr57 : resRes Try.prog Try.f57.results.toList = some [.tmp 4] := by kernel_rfl
theorem fok57 : FOk Try.prog 57 ⟨r57, 6, [.tmp 4]⟩ := by
  obtain ⟨c, h1, h2⟩ := res57
  exact ⟨by kernel_rfl, _, c, Try.func57, h1, Try.ntmps57, ⟨_, h2⟩, rr57⟩
def r67l1 : RCode :=
  (.seq (.region [
    ⟨(some 19), none, .act, .bin .lss (.tmp 18) (.tmp 17)⟩])
  (.seq (.cond (.tmp 19)
   .skip
   (.exit 2))
  (.seq (.block 3
   (.seq (.region [
     ⟨(some 20), none, .act, .indexAddr 2 (.tmp 16) (.tmp 18)⟩,
     ⟨(some 21), none, .act, .load true 2 (.tmp 20)⟩,
     ⟨(some 7), none, .act, .alloc [(.int .u64 0), (.int .u64 0)]⟩,
     ⟨none, none, .act, .store 2 (.tmp 7) (.tmp 21)⟩])
   (.seq (.seq (.region [
     ⟨(some 22), none, .pure, .fieldAddr 0 (.tmp 7)⟩,
     ⟨(some 23), none, .read, .load false 1 (.tmp 22)⟩,
     ⟨(some 24), none, .pure, .mv (.tmp 5)⟩,
     ⟨(some 25), none, .pure, .indexAddr 1 (.tmp 24) (.const (.int .i64 0))⟩,
     ⟨(some 26), none, .read, .load false 1 (.tmp 25)⟩,
     ⟨(some 27), none, .pure, .eq true .int (.tmp 23) (.tmp 26)⟩,
     ⟨(some 28), none, .pure, .mv (.tmp 27)⟩,
     ⟨(some 29), (some (28, false)), .pure, .mv (.tmp 4)⟩,
     ⟨(some 30), (some (28, false)), .pure, .fieldAddr 1 (.tmp 7)⟩,
     ⟨(some 31), (some (28, false)), .read, .load false 1 (.tmp 30)⟩,
     ⟨(some 32), (some (28, false)), .read, .lookup 29 (.bool false) (.tmp 29) (.tmp 31) false⟩,
     ⟨(some 33), none, .pure, .pick (.tmp 28) (.const (.bool true)) (.tmp 32)⟩])
   (.cond (.tmp 33)
    (.exit 3)
    .skip))
   (.seq (.region [
     ⟨(some 34), none, .act, .mv (.tmp 4)⟩,
     ⟨(some 35), none, .act, .fieldAddr 1 (.tmp 7)⟩,
     ⟨(some 36), none, .act, .load false 1 (.tmp 35)⟩,
     ⟨none, none, .act, .mapUpdate 29 (.tmp 34) (.tmp 36) (.const (.bool true))⟩])
   (.seq (.seq (.region [
     ⟨(some 37), none, .act, .mv (.tmp 0)⟩,
     ⟨(some 38), none, .act, .load true 2 (.tmp 7)⟩,
     ⟨(some 39), none, .act, .callv (.tmp 37) [(.tmp 38)]⟩,
     ⟨(some 40), none, .act, .un .not (.tmp 39)⟩])
   (.cond (.tmp 40)
    .ret
    .skip))
   (.seq (.region [
     ⟨(some 41), none, .act, .fieldAddr 1 (.tmp 7)⟩,
     ⟨(some 42), none, .act, .load false 1 (.tmp 41)⟩,
     ⟨(some 43), none, .act, .load false 1 (.tmp 1)⟩,
     ⟨(some 44), none, .act, .eq true .int (.tmp 42) (.tmp 43)⟩])
   (.cond (.tmp 44)
    (.region [
      ⟨(some 45), none, .act, .mv (.tmp 5)⟩,
      ⟨(some 46), none, .act, .fieldAddr 1 (.tmp 7)⟩,
      ⟨(some 47), none, .act, .load false 1 (.tmp 46)⟩,
      ⟨(some 48), none, .act, .buildSl 1 [(.int .u64 0)] 1 [(0, (.tmp 47))]⟩,
      ⟨(some 49), none, .act, .append 1 8 [(.int .u64 0)] (.tmp 45) (.tmp 48)⟩,
      ⟨(some 5), none, .act, .mv (.tmp 49)⟩])
    .skip)))))))
  (.region [
    ⟨(some 50), none, .act, .bin .add (.tmp 18) (.const (.int .i64 1))⟩,
    ⟨(some 18), none, .act, .mv (.tmp 50)⟩]))))
def r67l0 : RCode :=
  (.seq (.seq (.region [
    ⟨(some 11), none, .act, .mv (.tmp 5)⟩,
    ⟨(some 12), none, .act, .len (.tmp 11)⟩,
    ⟨(some 13), none, .act, .bin .gtr (.tmp 12) (.const (.int .i64 0))⟩])
  (.cond (.tmp 13)
   .skip
   (.exit 0)))
  (.seq (.block 1
   (.seq (.region [
     ⟨(some 16), none, .act, .load false 1 (.tmp 2)⟩,
     ⟨(some 17), none, .act, .len (.tmp 16)⟩,
     ⟨(some 18), none, .act, .mv (.const (.int .i64 0))⟩])
   (.block 2
    (.loop r67l1))))
  (.region [
    ⟨(some 14), none, .act, .mv (.tmp 5)⟩,
    ⟨(some 15), none, .act, .sliceSl 1 (.tmp 14) (some (.const (.int .i64 1))) none none⟩,
    ⟨(some 5), none, .act, .mv (.tmp 15)⟩])))
def r67 : RCode :=
  (.seq (.region [
    ⟨(some 8), none, .act, .makeMap⟩,
    ⟨(some 4), none, .act, .mv (.tmp 8)⟩])
  (.seq (.region [
    ⟨(some 9), none, .act, .load false 1 (.tmp 1)⟩,
    ⟨(some 10), none, .act, .buildSl 1 [(.int .u64 0)] 1 [(0, (.tmp 9))]⟩,
    ⟨(some 5), none, .act, .mv (.tmp 10)⟩])
  (.block 0
   (.loop r67l0))))
theorem res67 : ∃ c, Try.f67.body = some c ∧ resCode Try.prog 51 c = some r67 := ⟨_, rfl, by kernel_rfl⟩
theorem rr67 : resRes Try.prog Try.f67.results.toList = some [] := by kernel_rfl
theorem fok67 : FOk Try.prog 67 ⟨r67, 51, []⟩ := by
  obtain ⟨c, h1, h2⟩ := res67
  exact ⟨by kernel_rfl, _, c, Try.func67, h1, Try.ntmps67, ⟨_, h2⟩, rr67⟩
def tabL : List (Nat × RF) :=
  [(9, ⟨r9, 74, [.tmp 2]⟩),
   (18, ⟨r18, 83, [.tmp 2]⟩),
   (19, ⟨r19, 102, [.tmp 2]⟩),
   (34, ⟨r34, 28, []⟩),
   (20, ⟨r20, 71, [.tmp 4]⟩),
   (28, ⟨r28, 21, [.cell 4 true 8, .tmp 5]⟩),
   (35, ⟨r35, 17, [.cell 4 true 8, .tmp 5]⟩),
   (52, ⟨r52, 19, [.tmp 4]⟩),
   (53, ⟨r53, 8, [.tmp 3]⟩),
   (36, ⟨r36, 18, [.tmp 4]⟩),
   (43, ⟨r43, 9, [.tmp 4]⟩),
   (62, ⟨r62, 19, [.tmp 4]⟩),
   (21, ⟨r21, 18, [.tmp 4]⟩),
   (22, ⟨r22, 59, [.tmp 4]⟩),
   (23, ⟨r23, 63, [.tmp 4]⟩),
   (24, ⟨r24, 39, [.tmp 2, .tmp 3]⟩),
   (7, ⟨r7, 18, [.tmp 2]⟩),
   (10, ⟨r10, 41, []⟩),
   (25, ⟨r25, 48, [.tmp 2]⟩),
   (42, ⟨r42, 4, [.tmp 2]⟩),
   (41, ⟨r41, 9, [.tmp 2]⟩),
   (59, ⟨r59, 5, [.tmp 2]⟩),
   (68, ⟨r68, 13, [.tmp 4]⟩),
   (61, ⟨r61, 14, []⟩),
   (60, ⟨r60, 11, []⟩),
   (70, ⟨r70, 8, [.tmp 2]⟩),
   (84, ⟨r84, 25, [.tmp 2]⟩),
   (69, ⟨r69, 134, []⟩),
   (74, ⟨r74, 49, []⟩),
   (11, ⟨r11, 59, []⟩),
   (12, ⟨r12, 65, []⟩),
   (40, ⟨r40, 45, [.cell 4 false 1]⟩),
   (57, ⟨r57, 6, [.tmp 4]⟩),
   (67, ⟨r67, 51, []⟩)]
theorem tabL_ok : ∀ p ∈ tabL, FOk Try.prog p.1 p.2 :=
  List.forall_mem_cons.2 ⟨fok9, List.forall_mem_cons.2 ⟨fok18, List.forall_mem_cons.2 ⟨fok19, List.forall_mem_cons.2 ⟨fok34, List.forall_mem_cons.2 ⟨fok20, List.forall_mem_cons.2 ⟨fok28, List.forall_mem_cons.2 ⟨fok35, List.forall_mem_cons.2 ⟨fok52, List.forall_mem_cons.2 ⟨fok53, List.forall_mem_cons.2 ⟨fok36, List.forall_mem_cons.2 ⟨fok43, List.forall_mem_cons.2 ⟨fok62, List.forall_mem_cons.2 ⟨fok21, List.forall_mem_cons.2 ⟨fok22, List.forall_mem_cons.2 ⟨fok23, List.forall_mem_cons.2 ⟨fok24, List.forall_mem_cons.2 ⟨fok7, List.forall_mem_cons.2 ⟨fok10, List.forall_mem_cons.2 ⟨fok25, List.forall_mem_cons.2 ⟨fok42, List.forall_mem_cons.2 ⟨fok41, List.forall_mem_cons.2 ⟨fok59, List.forall_mem_cons.2 ⟨fok68, List.forall_mem_cons.2 ⟨fok61, List.forall_mem_cons.2 ⟨fok60, List.forall_mem_cons.2 ⟨fok70, List.forall_mem_cons.2 ⟨fok84, List.forall_mem_cons.2 ⟨fok69, List.forall_mem_cons.2 ⟨fok74, List.forall_mem_cons.2 ⟨fok11, List.forall_mem_cons.2 ⟨fok12, List.forall_mem_cons.2 ⟨fok40, List.forall_mem_cons.2 ⟨fok57, List.forall_mem_cons.2 ⟨fok67, List.forall_mem_nil _⟩⟩⟩⟩⟩⟩⟩⟩⟩⟩⟩⟩⟩⟩⟩⟩⟩⟩⟩⟩⟩⟩⟩⟩⟩⟩⟩⟩⟩⟩⟩⟩⟩⟩
theorem tab_ok : TabOk Try.prog (lookT tabL) := TabOk.of_list tabL_ok
end Go.Proofs.Ythfolomknkobkaa

namespace Go.Proofs.Ythfolomknkobkaa
open Go.Av
def kkT : Kx := ⟨fun t => match Nat.beq t 29 with | true => some (.int .u64) | false => none, fun s => Nat.beq s 8⟩
theorem kk_ok : KkOk Try.prog kkT := fun t q h => by
  simp only [kkT] at h
  rcases nbeq (a := t) (b := 29) with ⟨h1, h2⟩ | ⟨h1, h2⟩
  · rw [h1] at h
    cases h
    subst h2
    exact KeyR.int Try.underlying29
  · rw [h1] at h; cases h
def isNil (x : Option (EV × List EBlk)) : Bool := match x with | some (.k (.slice none 0 0), _) => true | _ => false
theorem isNil_ok {x : Option (EV × List EBlk)} (h : isNil x = true) : ∃ H', x = some (.k (.slice none 0 0), H') := by
  unfold isNil at h
  split at h
  · exact ⟨_, rfl⟩
  · cases h
def hist1 : List EV := [.sl 8 [[.k (.int .i64 1), .k (.int .u64 1), .k (.int .i64 1), .k (.int .u64 0), .k (.slice none 0 0), .k (.slice none 0 0), .k (.slice none 0 0), .k (.slice none 0 0)],
  [.k (.int .i64 2), .k (.int .u64 1), .k (.int .i64 1), .k (.int .u64 0), .k (.slice none 0 0), .k (.slice none 0 0), .sl 4 [[.sl 1 [[.k (.int .u8 107)]] .ro, .k (.int .u64 5), .k (.int .u64 2), .k (.slice none 0 0)]] .ro, .k (.slice none 0 0)],
  [.k (.int .i64 3), .k (.int .u64 1), .k (.int .i64 1), .k (.int .u64 1), .k (.slice none 0 0), .k (.slice none 0 0), .k (.slice none 0 0), .k (.slice none 0 0)]] .ro]
def hist1A : List AV := [.sl 8 [[.v (.int .i64 1), .v (.int .u64 1), .v (.int .i64 1), .v (.int .u64 0), .v (.slice none 0 0), .v (.slice none 0 0), .v (.slice none 0 0), .v (.slice none 0 0)],
  [.v (.int .i64 2), .v (.int .u64 1), .v (.int .i64 1), .v (.int .u64 0), .v (.slice none 0 0), .v (.slice none 0 0), .sl 4 [[.sl 1 [[.v (.int .u8 107)]] .ro, .v (.int .u64 5), .v (.int .u64 2), .v (.slice none 0 0)]] .ro, .v (.slice none 0 0)],
  [.v (.int .i64 3), .v (.int .u64 1), .v (.int .i64 1), .v (.int .u64 1), .v (.slice none 0 0), .v (.slice none 0 0), .v (.slice none 0 0), .v (.slice none 0 0)]] .ro]
theorem check_nil_run : isNil (evalCall kkT (lookT tabL) 2000 30 9 [.k (.slice none 0 0)] []) = true := by kernel_rfl
theorem check_one_run : lenIs 2 (evalCall kkT (lookT tabL) 2000 30 9 hist1 []) = true := by kernel_rfl
theorem check_nil (h : AHeap) : ACalls Try.prog 9 [.v (.slice none 0 0)] h (fun x h' => x = .v (.slice none 0 0) ∧ h' = h) := by
  obtain ⟨H', he⟩ := isNil_ok check_nil_run
  exact ACalls.eval kk_ok tab_ok (args := [.slice none 0 0]) he h
theorem check_one0 (h : AHeap) : ACalls Try.prog 9 hist1A h (fun x h' => ∃ sz es, x = .sl sz es .ro ∧ es.length = 2 ∧ h' = h) :=
  ACalls.evalLen kk_ok tab_ok check_one_run rfl rfl h
def hist1F : List AV := [.sl 8 [[.v (.int .i64 1), .v (.int .u64 1), .v (.int .i64 1), .v (.int .u64 0), .v (.slice none 0 0), .v (.slice none 0 0), .v (.slice none 0 0), .v (.slice none 0 0)],
  [.v (.int .i64 2), .v (.int .u64 1), .v (.int .i64 1), .v (.int .u64 0), .v (.slice none 0 0), .v (.slice none 0 0), .sl 4 [[.sl 1 [[.v (.int .u8 107)]] .ro, .v (.int .u64 5), .v (.int .u64 2), .v (.slice none 0 0)]] .full, .v (.slice none 0 0)],
  [.v (.int .i64 3), .v (.int .u64 1), .v (.int .i64 1), .v (.int .u64 1), .v (.slice none 0 0), .v (.slice none 0 0), .v (.slice none 0 0), .v (.slice none 0 0)]] .full]
theorem hist1_le : ALes hist1F hist1A := .cons (ALe.slss (.cons (ALes.refl _) (.cons (.cons (.refl _) (.cons (.refl _) (.cons (.refl _) (.cons (.refl _) (.cons (.refl _) (.cons (.refl _) (.cons (.toRo _ _ _) (.cons (.refl _) .nil)))))))) (.cons (ALes.refl _) .nil)))) .nil
theorem check_one (h : AHeap) : ACalls Try.prog 9 hist1F h (fun x h' => ∃ sz es, x = .sl sz es .ro ∧ es.length = 2 ∧ h' = h) := ACalls.args (check_one0 h) hist1_le
theorem freezeB {x : Operand} {P : Program} {c : Cls} {E : AEnv} {h : AHeap} {K : AV → AHeap → Prop} {b n : Nat} {cs : List AV} (hc : c = .act) (hx : aev E x = some (slAt b 0 n n)) (hb : h b = none) (hl : cs.length = n) (hmax : n ≤ maxLen) (hk : K (.sl 1 (cs.map fun a => [a]) .ro) h) : ROpS P c (.convSl x) E (h.set b (.box cs)) K :=
  R.convSl hc hx (AHeap.set_same _ _ _) hl hmax (by rw [AHeap.del_set _ _ _ hb]; exact hk)
def r4 : RCode :=
  (.seq (.region [
    ⟨(some 0), none, .act, .mv (.const (.bool false))⟩])
  (.seq (.region [
    ⟨(some 2), none, .act, .build [(.int .i64 0), (.int .u64 0), (.int .i64 0), (.int .u64 0), (.slice none 0 0), (.slice none 0 0), (.slice none 0 0), (.slice none 0 0)] [(0, 1, (.const (.int .i64 1))), (1, 1, (.const (.int .u64 1))), (2, 1, (.const (.int .i64 1)))]⟩,
    ⟨(some 3), none, .act, .buildSl 1 [(.int .u8 0)] 1 [(0, (.const (.int .u8 107)))]⟩,
    ⟨(some 4), none, .act, .convSl (.tmp 3)⟩,
    ⟨(some 5), none, .act, .build [(.slice none 0 0), (.int .u64 0), (.int .u64 0), (.slice none 0 0)] [(0, 1, (.tmp 4)), (1, 1, (.const (.int .u64 5))), (2, 1, (.const (.int .u64 2)))]⟩,
    ⟨(some 6), none, .act, .buildSl 4 [(.slice none 0 0), (.int .u64 0), (.int .u64 0), (.slice none 0 0)] 1 [(0, (.tmp 5))]⟩,
    ⟨(some 7), none, .act, .build [(.int .i64 0), (.int .u64 0), (.int .i64 0), (.int .u64 0), (.slice none 0 0), (.slice none 0 0), (.slice none 0 0), (.slice none 0 0)] [(0, 1, (.const (.int .i64 2))), (1, 1, (.const (.int .u64 1))), (2, 1, (.const (.int .i64 1))), (6, 1, (.tmp 6))]⟩,
    ⟨(some 8), none, .act, .build [(.int .i64 0), (.int .u64 0), (.int .i64 0), (.int .u64 0), (.slice none 0 0), (.slice none 0 0), (.slice none 0 0), (.slice none 0 0)] [(0, 1, (.const (.int .i64 3))), (1, 1, (.const (.int .u64 1))), (2, 1, (.const (.int .i64 1))), (3, 1, (.const (.int .u64 1)))]⟩,
    ⟨(some 9), none, .act, .buildSl 8 [(.int .i64 0), (.int .u64 0), (.int .i64 0), (.int .u64 0), (.slice none 0 0), (.slice none 0 0), (.slice none 0 0), (.slice none 0 0)] 3 [(0, (.tmp 2)), (1, (.tmp 7)), (2, (.tmp 8))]⟩,
    ⟨(some 1), none, .act, .mv (.tmp 9)⟩])
  (.seq (.region [
    ⟨(some 10), none, .act, .call 9 [(.const (.slice none 0 0))]⟩,
    ⟨(some 11), none, .act, .len (.tmp 10)⟩,
    ⟨(some 12), none, .act, .eq false .int (.tmp 11) (.const (.int .i64 0))⟩,
    ⟨(some 13), none, .act, .mv (.tmp 12)⟩,
    ⟨(some 14), (some (13, true)), .act, .mv (.tmp 1)⟩,
    ⟨(some 15), (some (13, true)), .act, .call 9 [(.tmp 14)]⟩,
    ⟨(some 16), (some (13, true)), .act, .len (.tmp 15)⟩,
    ⟨(some 17), (some (13, true)), .act, .eq false .int (.tmp 16) (.const (.int .i64 2))⟩,
    ⟨(some 18), none, .act, .pick (.tmp 13) (.tmp 17) (.const (.bool false))⟩,
    ⟨(some 0), none, .act, .mv (.tmp 18)⟩])
  .ret)))
theorem res4 : ∃ c, Try.f4.body = some c ∧ resCode Try.prog 19 c = some r4 := ⟨_, rfl, by kernel_rfl⟩
theorem rr4 : resRes Try.prog Try.f4.results.toList = some [.tmp 0] := by kernel_rfl
theorem awake_spec (h : AHeap) : ACalls Try.prog 4 [] h (fun x h' => x = bl true ∧ h' = h) := by
  obtain ⟨c, hc1, hc2⟩ := res4
  refine ACalls.weak (ACalls.enter Try.func4 hc1 Try.ntmps4 hc2 (Nat.le_of_ble_eq_true rfl) rfl ?_)
  repeat' (first | refine S.nilK ?_ | (refine S.op rfl ?_; first | refine R.callQ (by decide) rfl (check_nil _) ?_ | (show ROpS _ _ (.buildSl 1 [.int .u8 0] 1 _) _ _ _; refine R.buildSlO rfl rfl rfl (fun b7 hb7 => ?_)) | refine freezeB rfl rfl (by assumption) rfl (by decide) ?_ | refine R.mv rfl ?_ | refine R.lenA rfl ?_ | refine R.build rfl rfl ?_ | refine R.buildSl rfl rfl rfl (by decide) ?_ | ((first | refine S.eqInt rfl rfl ?_ ?_) <;> intro hlt <;> try (exfalso; omega))) | refine S.seq ?_ | refine S.region ?_)
  all_goals first
    | (exfalso; omega)
    | skip
  refine S.op rfl ?_
  refine R.call rfl (show avs _ _ = some hist1F from rfl) (ACalls.mono (check_one _) ?_)
  rintro _ _ ⟨sz, es, rfl, hl, rfl⟩
  repeat' (first | refine S.nilK ?_ | (refine S.op rfl ?_; first | refine R.mv rfl ?_ | refine R.pickT rfl rfl ?_ | refine R.len rfl ?_ | ((first | refine S.eqInt rfl rfl ?_ ?_) <;> intro hlt <;> try (exfalso; omega))))
  all_goals first
    | (exfalso; omega)
    | skip
  apply S.ret rr4
  case hx => repeat (first | exact ResAt.nil | apply ResAt.tmp rfl)
  exact ⟨_, _, .refl _, (by repeat (first | exact AHeap.le.refl _)), rfl, rfl⟩
end Go.Proofs.Ythfolomknkobkaa

namespace Go.Proofs.Ythfolomknkobkaa
open Go.Av
open Go.Ad (Seen Span Run Dep cmpU cmpT ltT cmpU_lt cmpU_zero cmpU_sm cmpT_sm ltT_sw)
def keysA (l : List (List UInt8)) : AV := .sl 1 (l.map fun k => [bys k]) .ro
def seenC (s : Seen) : List AV := [bys s.key, u64 s.ts, u64 s.txn, keysA s.keys]
def seenA (l : List Seen) : AV := .sl 4 (l.map seenC) .ro
def spanC (s : Span) : List AV := [bys s.lo, bys s.hi]
def spansA (l : List Span) : AV := .sl 2 (l.map spanC) .ro
def runC (r : Run) : List AV := [u64 r.txn, i64 r.level, i64 r.state, u64 r.start, u64 r.ts, keysA r.keys, seenA r.seen, spansA r.spans]
def runsA (l : List Run) : AV := .sl 8 (l.map runC) .ro
def depC (d : Dep) : List AV := [u64 d.src, u64 d.dst, i64 d.kind]
theorem runC_len (r : Run) : (runC r).length = 8 := rfl
theorem runC_one (r : Run) : (runC r).all AV.one = true := rfl
def r64 : RCode :=
  (.seq (.region [
    ⟨(some 2), none, .act, .mv (.const (.bool false))⟩])
  (.seq (.region [
    ⟨(some 3), none, .act, .mv (.tmp 0)⟩,
    ⟨(some 4), none, .act, .mv (.tmp 0)⟩,
    ⟨(some 5), none, .act, .eq true .int (.tmp 3) (.tmp 4)⟩,
    ⟨(some 2), none, .act, .mv (.tmp 5)⟩])
  .ret))
theorem res64 : ∃ c, Try.f64.body = some c ∧ resCode Try.prog 6 c = some r64 := ⟨_, rfl, by kernel_rfl⟩
theorem rr64 : resRes Try.prog Try.f64.results.toList = some [.tmp 2] := by kernel_rfl
theorem nan_spec (a : UInt64) (h : AHeap) : ACalls Try.prog 64 [u64 a] h (fun x h' => x = bl false ∧ h' = h) := by
  obtain ⟨c, hc1, hc2⟩ := res64
  refine ACalls.weak (ACalls.enter Try.func64 hc1 Try.ntmps64 hc2 (Nat.le_of_ble_eq_true rfl) rfl ?_)
  repeat' (first | refine S.nilK ?_ | (refine S.op rfl ?_; first | refine R.mv rfl ?_ | ((first | refine S.eqInt rfl rfl ?_ ?_) <;> intro hlt <;> try (exfalso; omega))) | refine S.seq ?_ | refine S.region ?_)
  all_goals first
    | (exfalso; omega)
    | skip
  apply S.ret rr64
  case hx => repeat (first | exact ResAt.nil | apply ResAt.tmp rfl)
  exact ⟨_, _, .refl _, (by repeat (first | exact AHeap.le.refl _)), rfl, rfl⟩
def r48 : RCode :=
  (.seq (.region [
    ⟨(some 4), none, .act, .mv (.const (.int .i64 0))⟩])
  (.seq (.region [
    ⟨(some 7), none, .act, .mv (.tmp 0)⟩,
    ⟨(some 8), none, .act, .call 64 [(.tmp 7)]⟩,
    ⟨(some 5), none, .act, .mv (.tmp 8)⟩])
  (.seq (.region [
    ⟨(some 9), none, .act, .mv (.tmp 1)⟩,
    ⟨(some 10), none, .act, .call 64 [(.tmp 9)]⟩,
    ⟨(some 6), none, .act, .mv (.tmp 10)⟩])
  (.seq (.seq (.region [
    ⟨(some 11), none, .act, .mv (.tmp 5)⟩])
  (.cond (.tmp 11)
   (.seq (.seq (.region [
     ⟨(some 12), none, .act, .mv (.tmp 6)⟩])
   (.cond (.tmp 12)
    (.seq (.region [
      ⟨(some 4), none, .act, .mv (.const (.int .i64 0))⟩])
    .ret)
    .skip))
   (.seq (.region [
     ⟨(some 4), none, .act, .mv (.const (.int .i64 (-1)))⟩])
   .ret))
   .skip))
  (.seq (.seq (.region [
    ⟨(some 13), none, .act, .mv (.tmp 6)⟩])
  (.cond (.tmp 13)
   (.seq (.region [
     ⟨(some 4), none, .act, .mv (.const (.int .i64 1))⟩])
   .ret)
   .skip))
  (.seq (.seq (.region [
    ⟨(some 14), none, .act, .mv (.tmp 0)⟩,
    ⟨(some 15), none, .act, .mv (.tmp 1)⟩,
    ⟨(some 16), none, .act, .bin .lss (.tmp 14) (.tmp 15)⟩])
  (.cond (.tmp 16)
   (.seq (.region [
     ⟨(some 4), none, .act, .mv (.const (.int .i64 (-1)))⟩])
   .ret)
   .skip))
  (.seq (.seq (.region [
    ⟨(some 17), none, .act, .mv (.tmp 0)⟩,
    ⟨(some 18), none, .act, .mv (.tmp 1)⟩,
    ⟨(some 19), none, .act, .bin .gtr (.tmp 17) (.tmp 18)⟩])
  (.cond (.tmp 19)
   (.seq (.region [
     ⟨(some 4), none, .act, .mv (.const (.int .i64 1))⟩])
   .ret)
   .skip))
  (.seq (.region [
    ⟨(some 4), none, .act, .mv (.const (.int .i64 0))⟩])
  .ret))))))))
theorem res48 : ∃ c, Try.f48.body = some c ∧ resCode Try.prog 20 c = some r48 := ⟨_, rfl, by kernel_rfl⟩
theorem rr48 : resRes Try.prog Try.f48.results.toList = some [.tmp 4] := by kernel_rfl
theorem cmpU_spec (a b : UInt64) (h : AHeap) : ACalls Try.prog 48 [u64 a, u64 b] h (fun x h' => x = i64 (cmpU a b) ∧ h' = h) := by
  have c1 := nan_spec a
  have c2 := nan_spec b
  obtain ⟨c, hc1, hc2⟩ := res48
  refine ACalls.weak (ACalls.enter Try.func48 hc1 Try.ntmps48 hc2 (Nat.le_of_ble_eq_true rfl) rfl ?_)
  repeat' (first | refine S.nilK ?_ | (refine S.op rfl ?_; first | refine R.callQ (by decide) rfl (c1 _) ?_ | refine R.callQ (by decide) rfl (c2 _) ?_ | refine R.mv rfl ?_ | ((first | refine S.lss rfl rfl ?_ ?_ | refine S.gtr rfl rfl ?_ ?_) <;> intro hlt <;> try (exfalso; omega))) | refine S.seq ?_ | refine S.region ?_ | refine S.condT rfl ?_ | refine S.condF rfl ?_ | refine RRun.skip ?_)
  all_goals
    apply S.ret rr48
    case hx => repeat (first | exact ResAt.nil | apply ResAt.tmp rfl)
    refine ⟨_, _, .refl _, (by repeat (first | exact AHeap.le.refl _)), ?_, rfl⟩
    unfold cmpU
    split
    · first
        | rfl
        | (exfalso; omega)
    · split
      · first
          | rfl
          | (exfalso; omega)
      · first
          | rfl
          | (exfalso; omega)
def r47l0 : RCode :=
  (.seq (.region [
    ⟨(some 9), none, .act, .bin .lss (.tmp 8) (.tmp 7)⟩])
  (.seq (.cond (.tmp 9)
   .skip
   (.exit 0))
  (.seq (.block 1
   (.seq (.region [
     ⟨(some 10), none, .act, .indexAddr 1 (.tmp 6) (.tmp 8)⟩,
     ⟨(some 11), none, .act, .load false 1 (.tmp 10)⟩,
     ⟨(some 5), none, .act, .mv (.tmp 11)⟩])
   (.seq (.region [
     ⟨(some 12), none, .act, .mv (.tmp 5)⟩,
     ⟨(some 13), none, .act, .mv (.tmp 3)⟩,
     ⟨(some 14), none, .act, .eq true .int (.tmp 12) (.tmp 13)⟩])
   (.cond (.tmp 14)
    (.seq (.region [
      ⟨(some 15), none, .act, .mv (.tmp 5)⟩,
      ⟨(some 2), none, .act, .mv (.tmp 15)⟩])
    .ret)
    .skip))))
  (.region [
    ⟨(some 16), none, .act, .bin .add (.tmp 8) (.const (.int .i64 1))⟩,
    ⟨(some 8), none, .act, .mv (.tmp 16)⟩]))))
def r47 : RCode :=
  (.seq (.region [
    ⟨(some 2), none, .act, .mv (.const (.int .i64 0))⟩])
  (.seq (.region [
    ⟨(some 3), none, .act, .mv (.const (.int .i64 0))⟩])
  (.seq (.seq (.region [
    ⟨(some 6), none, .act, .mv (.tmp 0)⟩,
    ⟨(some 7), none, .act, .len (.tmp 6)⟩,
    ⟨(some 8), none, .act, .mv (.const (.int .i64 0))⟩])
  (.block 0
   (.loop r47l0)))
  (.seq (.region [
    ⟨(some 17), none, .act, .mv (.tmp 3)⟩,
    ⟨(some 2), none, .act, .mv (.tmp 17)⟩])
  .ret))))
theorem res47 : ∃ c, Try.f47.body = some c ∧ resCode Try.prog 18 c = some r47 := ⟨_, rfl, by kernel_rfl⟩
theorem rr47 : resRes Try.prog Try.f47.results.toList = some [.tmp 2] := by kernel_rfl
theorem or_spec (a b : Int) (h : AHeap) : ACalls Try.prog 47 [.sl 1 [[i64 a], [i64 b]] .full] h (fun x h' => x = i64 (if a ≠ 0 then a else b) ∧ h' = h) := by
  have h1 : [[i64 a], [i64 b]][(0 : Int).toNat]? = some [i64 a] := rfl
  have h2 : [[i64 a], [i64 b]][(0 + 1 : Int).toNat]? = some [i64 b] := rfl
  have hl : [[i64 a], [i64 b]].length = 2 := rfl
  obtain ⟨c, hc1, hc2⟩ := res47
  refine ACalls.weak (ACalls.enter Try.func47 hc1 Try.ntmps47 hc2 (Nat.le_of_ble_eq_true rfl) rfl ?_)
  repeat' (first | (refine RRun.loopIn ?_) | (refine RRun.inLoop ?_) | refine S.nilK ?_ | (refine S.op rfl ?_; first | refine R.indexAddr rfl rfl (by omega) h1 ?_ | refine R.indexAddr rfl rfl (by omega) h2 ?_ | refine R.mv rfl ?_ | refine R.loadR rfl rfl ?_ | refine S.addI rfl rfl (by omega) ?_ | refine R.len rfl ?_ | ((first | refine S.lss rfl rfl ?_ ?_ | refine S.eqInt rfl rfl ?_ ?_) <;> intro hlt <;> try (exfalso; omega))) | refine S.seq ?_ | refine S.region ?_ | refine S.condT rfl ?_ | refine S.condF rfl ?_ | refine RRun.skip ?_ | refine RRun.block ?_ | refine RRun.inBlock ?_ | refine RRun.exit rfl ?_)
  all_goals
    apply S.ret rr47
    case hx => repeat (first | exact ResAt.nil | apply ResAt.tmp rfl)
    refine ⟨_, _, .refl _, (by repeat (first | exact AHeap.le.refl _)), ?_, rfl⟩
    split
    · first
        | rfl
        | (exfalso; omega)
    · first
        | rfl
        | (exfalso; omega)
        | (have hb : b = 0 := by omega
           rw [hb]; rfl)
        | (rename_i h7
           exact absurd (by omega) h7)
def r46 : RCode :=
  (.seq (.region [
    ⟨(some 2), none, .act, .box (.tmp 0)⟩,
    ⟨(some 3), none, .act, .box (.tmp 1)⟩,
    ⟨(some 4), none, .act, .mv (.const (.int .i64 0))⟩])
  (.seq (.region [
    ⟨(some 5), none, .pure, .fieldAddr 4 (.tmp 2)⟩,
    ⟨(some 6), none, .read, .load false 1 (.tmp 5)⟩,
    ⟨(some 7), none, .pure, .fieldAddr 4 (.tmp 3)⟩,
    ⟨(some 8), none, .read, .load false 1 (.tmp 7)⟩,
    ⟨(some 9), none, .read, .call 48 [(.tmp 6), (.tmp 8)]⟩,
    ⟨(some 10), none, .pure, .fieldAddr 0 (.tmp 2)⟩,
    ⟨(some 11), none, .read, .load false 1 (.tmp 10)⟩,
    ⟨(some 12), none, .pure, .fieldAddr 0 (.tmp 3)⟩,
    ⟨(some 13), none, .read, .load false 1 (.tmp 12)⟩,
    ⟨(some 14), none, .act, .call 48 [(.tmp 11), (.tmp 13)]⟩,
    ⟨(some 15), none, .pure, .buildSl 1 [(.int .i64 0)] 2 [(0, (.tmp 9)), (1, (.tmp 14))]⟩,
    ⟨(some 16), none, .act, .call 47 [(.tmp 15)]⟩,
    ⟨(some 4), none, .pure, .mv (.tmp 16)⟩])
  .ret))
theorem res46 : ∃ c, Try.f46.body = some c ∧ resCode Try.prog 17 c = some r46 := ⟨_, rfl, by kernel_rfl⟩
theorem rr46 : resRes Try.prog Try.f46.results.toList = some [.tmp 4] := by kernel_rfl
theorem cmpT_spec (x y : Run) (h : AHeap) : ACalls Try.prog 46 [.ag (runC x), .ag (runC y)] h (fun z h' => z = i64 (cmpT x y) ∧ h' = h) := by
  have c1 := cmpU_spec x.ts y.ts
  have c2 := cmpU_spec x.txn y.txn
  have c3 := or_spec (cmpU x.ts y.ts) (cmpU x.txn y.txn)
  obtain ⟨c, hc1, hc2⟩ := res46
  refine ACalls.weak (ACalls.enter Try.func46 hc1 Try.ntmps46 hc2 (Nat.le_of_ble_eq_true rfl) rfl ?_)
  repeat' (first | refine S.nilK ?_ | (refine S.op rfl ?_; first | refine R.callQ (by decide) rfl (c1 _) ?_ | refine R.callQ (by decide) rfl (c2 _) ?_ | refine R.callQ (by decide) rfl (c3 _) ?_ | refine R.mv rfl ?_ | refine R.fieldAddr rfl ?_ | refine R.load (by decide) rfl (by (repeat' (first | exact AHeap.set_same _ _ _ | refine AHeap.get_fresh ‹_› ?_)); first | done | fail) rfl ?_ | refine R.box rfl rfl rfl (fun b hb => ?_) | refine R.buildSl rfl rfl rfl (by decide) ?_) | refine S.seq ?_ | refine S.region ?_)
  apply S.ret rr46
  case hx => repeat (first | exact ResAt.nil | apply ResAt.tmp rfl)
  exact ⟨_, _, .refl _, (by repeat (first | exact AHeap.le.refl _ | refine AHeap.le.set ?_ _ (by (repeat' (first | assumption | exact AHeap.z1 ‹_›)); first | done | fail))), rfl, rfl⟩
def rcs (d : List Run) : List AV := (d.map runC).flatten
theorem rcs_len (d : List Run) : (rcs d).length = d.length * 8 := by
  unfold rcs; rw [flatten_length (sz := 8) _ (fun e he => by obtain ⟨r, _, rfl⟩ := List.mem_map.1 he; rfl)]; simp
def HR (h : AHeap) (q : Nat) (d : List Run) (sp : List AV) : AHeap := h.set q (.box (rcs d ++ sp))
theorem HR_at (h : AHeap) (q : Nat) (d : List Run) (sp : List AV) : HR h q d sp q = some (.box (rcs d ++ sp)) := AHeap.set_same _ _ _
theorem HR_set (h : AHeap) (q : Nat) (d d' : List Run) (sp : List AV) : (HR h q d sp).set q (.box (rcs d' ++ sp)) = HR h q d' sp := AHeap.set_set _ _ _ _
theorem get_split {α : Type} : ∀ {d : List α} {n : Nat} {r : α}, d[n]? = some r → ∃ L R, d = L ++ r :: R ∧ L.length = n
  | x :: d, 0, r, h => by simp at h; subst h; exact ⟨[], d, rfl, rfl⟩
  | x :: d, n + 1, r, h => by
    obtain ⟨L, R, e, hl⟩ := get_split (d := d) (n := n) (r := r) (by simpa using h)
    exact ⟨x :: L, R, by rw [e]; rfl, by simp [hl]⟩
  | [], n, r, h => by simp at h
end Go.Proofs.Ythfolomknkobkaa
namespace Go.Av
section
variable {P : Program} {c : Cls} {E : AEnv} {h : AHeap} {K : AV → AHeap → Prop} {q : Nat} {sp : List AV}
theorem S.addNN {x y : Operand} {m n : Nat} (hx : aev E x = some (i64 ((m : Nat) : Int))) (hy : aev E y = some (i64 ((n : Nat) : Int))) (hb : m + n ≤ 9223372036854775807) (hk : K (i64 ((m + n : Nat) : Int)) h) : ROpS P c (.bin .add x y) E h K :=
  S.addI hx hy (by omega) (by rw [show ((m : Int) + (n : Int)) = ((m + n : Nat) : Int) by omega]; exact hk)
theorem S.subNN {x y : Operand} {m n : Nat} (hx : aev E x = some (i64 ((m : Nat) : Int))) (hy : aev E y = some (i64 ((n : Nat) : Int))) (hb : n ≤ m) (hb2 : m ≤ 9223372036854775807) (hk : K (i64 ((m - n : Nat) : Int)) h) : ROpS P c (.bin .sub x y) E h K :=
  S.subI hx hy (by omega) (by rw [show ((m : Int) - (n : Int)) = ((m - n : Nat) : Int) by omega]; exact hk)
abbrev ptr8 (q n : Nat) : AV := ptrAt q (n * 8)
theorem S.ixN {x i : Operand} {b len cap n : Nat} (hx : aev E x = some (slAt b 0 len cap)) (hi : aev E i = some (i64 ((n : Nat) : Int))) (hn : n < len) (hk : K (ptr8 b n) h) : ROpS P c (.indexAddr 8 x i) E h K :=
  R.indexAddrV hx hi (by omega) (by omega) (by
    have e : 0 + ((n : Nat) : Int).toNat * 8 = n * 8 := by omega
    rw [e]; exact hk)
end
end Go.Av
namespace Go.Proofs.Ythfolomknkobkaa
open Go.Av
open Go.Ad (Seen Span Run Dep)
section
variable {P : Program} {c : Cls} {E : AEnv} {h : AHeap} {K : AV → AHeap → Prop} {q : Nat} {sp : List AV}
theorem ldR {x : Operand} {d : List Run} {n : Nat} {r : Run} (hc : c ≠ .pure) (hx : aev E x = some (ptr8 q n)) (hn : d[n]? = some r) (hk : K (.ag (runC r)) (HR h q d sp)) : ROpS P c (.load true 8 x) E (HR h q d sp) K := by
  refine R.load hc hx (HR_at _ _ _ _) ?_ hk
  obtain ⟨L, R, rfl, rfl⟩ := get_split hn
  have e : rcs (L ++ r :: R) ++ sp = rcs L ++ (runC r ++ (rcs R ++ sp)) := by simp [rcs]
  rw [e, List.drop_append_of_le_length (by rw [rcs_len]; omega), List.drop_of_length_le (by rw [rcs_len]; omega), List.nil_append]
  rfl
theorem stR {x y : Operand} {d : List Run} {n : Nat} {r : Run} (hc : c = .act) (hx : aev E x = some (ptr8 q n)) (hy : aev E y = some (.ag (runC r))) (hn : n < d.length) (hk : K (.v undef) (HR h q (d.set n r) sp)) : ROpS P c (.store 8 x y) E (HR h q d sp) K := by
  refine R.store hc hx (HR_at _ _ _ _) hy rfl rfl (by rw [List.length_append, rcs_len]; omega) ?_
  obtain ⟨L, R, e, rfl⟩ := get_split (List.getElem?_eq_getElem hn)
  generalize d[L.length] = r0 at e
  subst e
  have e1 : rcs (L ++ r0 :: R) ++ sp = rcs L ++ (runC r0 ++ (rcs R ++ sp)) := by simp [rcs]
  have e2 : rcs ((L ++ r0 :: R).set L.length r) ++ sp = rcs L ++ (runC r ++ (rcs R ++ sp)) := by
    rw [List.set_append_right _ _ (Nat.le_refl _), Nat.sub_self]; simp [rcs]
  have : over (rcs (L ++ r0 :: R) ++ sp) (L.length * 8) (runC r) = rcs ((L ++ r0 :: R).set L.length r) ++ sp := by
    rw [e1, e2]
    unfold over
    rw [List.take_append_of_le_length (by rw [rcs_len]; omega), List.take_of_length_le (by rw [rcs_len]; omega), List.drop_append, List.drop_of_length_le (by rw [rcs_len, runC_len]; omega), rcs_len, runC_len]
    have : L.length * 8 + 8 - L.length * 8 = 8 := by omega
    rw [this, List.nil_append, List.append_assoc]
    rfl
  rw [this, HR_set]; exact hk
end
end Go.Proofs.Ythfolomknkobkaa

namespace Go.Proofs.Ythfolomknkobkaa
open Go.Av
open Go.Ad (Run cmpT ltT cmpT_sm ltT_sw)
theorem hp46 : plainCallee Try.prog 46 = true := by kernel_rfl
abbrev cmpA : AV := .fn (.func 46) [] []
theorem set_mid {α : Type} (L R : List α) (x y : α) : (L ++ x :: R).set L.length y = L ++ y :: R := by
  rw [List.set_append_right _ _ (Nat.le_refl _), Nat.sub_self]; rfl
theorem get_mid {α : Type} (L R : List α) (x : α) : (L ++ x :: R)[L.length]? = some x := by
  rw [List.getElem?_append_right (Nat.le_refl _), Nat.sub_self]; rfl
def r92l0 : RCode :=
  (.seq (.seq (.region [
    ⟨(some 11), none, .act, .mv (.tmp 10)⟩,
    ⟨(some 12), none, .act, .mv (.tmp 3)⟩,
    ⟨(some 13), none, .act, .bin .lss (.tmp 11) (.tmp 12)⟩])
  (.cond (.tmp 13)
   .skip
   (.exit 0)))
  (.seq (.block 1
   (.region [
     ⟨(some 16), none, .pure, .mv (.tmp 0)⟩,
     ⟨(some 17), none, .pure, .mv (.tmp 1)⟩,
     ⟨(some 18), none, .pure, .mv (.tmp 10)⟩,
     ⟨(some 19), none, .pure, .bin .add (.tmp 17) (.tmp 18)⟩,
     ⟨(some 20), none, .pure, .mv (.tmp 0)⟩,
     ⟨(some 21), none, .pure, .mv (.tmp 2)⟩,
     ⟨(some 22), none, .pure, .mv (.tmp 10)⟩,
     ⟨(some 23), none, .pure, .bin .add (.tmp 21) (.tmp 22)⟩,
     ⟨(some 24), none, .pure, .mv (.tmp 0)⟩,
     ⟨(some 25), none, .pure, .mv (.tmp 2)⟩,
     ⟨(some 26), none, .pure, .mv (.tmp 10)⟩,
     ⟨(some 27), none, .pure, .bin .add (.tmp 25) (.tmp 26)⟩,
     ⟨(some 28), none, .pure, .indexAddr 8 (.tmp 24) (.tmp 27)⟩,
     ⟨(some 29), none, .read, .load true 8 (.tmp 28)⟩,
     ⟨(some 30), none, .pure, .mv (.tmp 0)⟩,
     ⟨(some 31), none, .pure, .mv (.tmp 1)⟩,
     ⟨(some 32), none, .pure, .mv (.tmp 10)⟩,
     ⟨(some 33), none, .pure, .bin .add (.tmp 31) (.tmp 32)⟩,
     ⟨(some 34), none, .pure, .indexAddr 8 (.tmp 30) (.tmp 33)⟩,
     ⟨(some 35), none, .read, .load true 8 (.tmp 34)⟩,
     ⟨(some 36), none, .pure, .indexAddr 8 (.tmp 16) (.tmp 19)⟩,
     ⟨none, none, .act, .store 8 (.tmp 36) (.tmp 29)⟩,
     ⟨(some 37), none, .pure, .indexAddr 8 (.tmp 20) (.tmp 23)⟩,
     ⟨none, none, .act, .store 8 (.tmp 37) (.tmp 35)⟩]))
  (.region [
    ⟨(some 14), none, .act, .mv (.tmp 10)⟩,
    ⟨(some 15), none, .act, .bin .add (.tmp 14) (.const (.int .i64 1))⟩,
    ⟨(some 10), none, .act, .mv (.tmp 15)⟩])))
def r92 : RCode :=
  (.seq (.region [
    ⟨(some 10), none, .act, .mv (.const (.int .i64 0))⟩])
  (.block 0
   (.loop r92l0)))
theorem res92 : ∃ c, Try.f92.body = some c ∧ resCode Try.prog 38 c = some r92 := ⟨_, rfl, by kernel_rfl⟩
theorem rr92 : resRes Try.prog Try.f92.results.toList = some [] := by kernel_rfl
theorem swap_step (q n cap a b m k : Nat) (d : List Run) (x y : Run) (sp : List AV) (h : AHeap) (hn : n ≤ 1000000) (hd : d.length = n) (hk0 : k < m) (ha : a + k < n) (hb : b + k < n) (hX : d[a + k]? = some x) (hY : d[b + k]? = some y) (ks : List RT) (Q : AV → AHeap → Prop)
    (H : RRun Try.prog Try.f92 38 (.inLoop r92l0 :: ks) (Env.get [(0, slAt q 0 n cap), (1, i64 a), (2, i64 b), (3, i64 m), (10, i64 (k + 1 : Nat))]) (HR h q ((d.set (a + k) y).set (b + k) x) sp) Q) :
    RRun Try.prog Try.f92 38 (.inLoop r92l0 :: ks) (Env.get [(0, slAt q 0 n cap), (1, i64 a), (2, i64 b), (3, i64 m), (10, i64 k)]) (HR h q d sp) Q := by
  refine RRun.inLoop ?_
  repeat' (first | (refine S.op0 rfl (stR rfl rfl rfl (by (try simp only [List.length_set]); omega) ?_)) | refine S.nilK ?_ | (refine S.op rfl ?_; first | refine S.addNN (n := 1) rfl rfl (by omega) ?_ | refine S.addNN rfl rfl (by omega) ?_ | refine S.ixN rfl rfl (by omega) ?_ | refine ldR (by decide) rfl hX ?_ | refine ldR (by decide) rfl hY ?_ | refine R.mv rfl ?_ | ((first | refine S.lss rfl rfl ?_ ?_) <;> intro hlt <;> try (exfalso; omega))) | refine S.seq ?_ | refine S.region ?_ | refine S.condT rfl ?_ | refine RRun.skip ?_ | refine RRun.block ?_ | refine RRun.inBlock ?_)
  exact S.keep [0, 1, 2, 3, 10] rfl H
theorem swap_loop (q n cap a b m : Nat) (sp : List AV) (h : AHeap) (hn : n ≤ 1000000) (Z : List Run) (ks : List RT) (Q : AV → AHeap → Prop) : ∀ (X Y A B : List Run) (k : Nat), X.length = Y.length → k + X.length = m → A.length = a + k → A.length + X.length + B.length = b + k → A.length + X.length + B.length + Y.length + Z.length = n →
    RRun Try.prog Try.f92 38 ks (Env.get []) (HR h q (A ++ Y ++ B ++ X ++ Z) sp) Q →
    RRun Try.prog Try.f92 38 (.inLoop r92l0 :: .inBlock 0 :: ks) (Env.get [(0, slAt q 0 n cap), (1, i64 a), (2, i64 b), (3, i64 m), (10, i64 k)]) (HR h q (A ++ X ++ B ++ Y ++ Z) sp) Q
  | [], [], A, B, k, _, hm, _, _, _, hk => by
    simp only [List.length_nil] at hm
    refine RRun.inLoop ?_
    repeat' (first | refine S.nilK ?_ | (refine S.op rfl ?_; first | refine R.mv rfl ?_ | ((first | refine S.lss rfl rfl ?_ ?_) <;> intro hlt <;> try (exfalso; omega))) | refine S.seq ?_ | refine S.region ?_ | refine S.condF rfl ?_ | refine RRun.exit rfl ?_)
    exact S.keep [] rfl hk
  | x :: X, y :: Y, A, B, k, hl, hm, hA, hB, hn', hk => by
    simp only [List.length_cons] at hl hm hB hn'
    have e1 : A ++ x :: X ++ B ++ y :: Y ++ Z = A ++ x :: (X ++ B ++ y :: Y ++ Z) := by simp
    have e2 : A ++ x :: X ++ B ++ y :: Y ++ Z = (A ++ x :: X ++ B) ++ y :: (Y ++ Z) := by simp
    have hX : (A ++ x :: X ++ B ++ y :: Y ++ Z)[a + k]? = some x := by rw [← hA, e1]; exact get_mid _ _ _
    have hlen2 : (A ++ x :: X ++ B).length = b + k := by simp; omega
    have hY : (A ++ x :: X ++ B ++ y :: Y ++ Z)[b + k]? = some y := by rw [← hlen2, e2]; exact get_mid _ _ _
    have e3 : ((A ++ x :: X ++ B ++ y :: Y ++ Z).set (a + k) y).set (b + k) x = (A ++ [y]) ++ X ++ (B ++ [x]) ++ Y ++ Z := by
      rw [← hA, e1, set_mid]
      have e4 : A ++ y :: (X ++ B ++ y :: Y ++ Z) = (A ++ y :: X ++ B) ++ y :: (Y ++ Z) := by simp
      have hlen3 : (A ++ y :: X ++ B).length = b + k := by simp; omega
      rw [← hlen3, e4, set_mid]
      simp
    refine swap_step q n cap a b m k _ x y sp h hn (by simp; omega) (by omega) (by omega) (by omega) hX hY _ Q ?_
    rw [e3]
    refine swap_loop q n cap a b m sp h hn Z ks Q X Y (A ++ [y]) (B ++ [x]) (k + 1) (by omega) (by omega) (by simp; omega) (by simp; omega) (by simp; omega) ?_
    have e5 : A ++ [y] ++ Y ++ (B ++ [x]) ++ X ++ Z = A ++ y :: Y ++ B ++ x :: X ++ Z := by simp
    rw [e5]; exact hk
theorem swapRange_spec (q n cap : Nat) (sp : List AV) (h : AHeap) (hn : n ≤ 1000000) (P X M Y Z : List Run) (hXY : X.length = Y.length) (a b m : Nat) (ha : a = P.length) (hb : b = P.length + X.length + M.length) (hm : m = X.length) (hlen : P.length + X.length + M.length + Y.length + Z.length = n) (f : AV) :
    ACalls Try.prog 92 [slAt q 0 n cap, i64 a, i64 b, i64 m, f] (HR h q (P ++ X ++ M ++ Y ++ Z) sp) (fun _ h' => h' = HR h q (P ++ Y ++ M ++ X ++ Z) sp) := by
  subst ha; subst hb; subst hm
  obtain ⟨c', hc1, hc2⟩ := res92
  refine ACalls.enter Try.func92 hc1 Try.ntmps92 hc2 (Nat.le_of_ble_eq_true rfl) rfl ?_
  repeat' (first | refine S.nilK ?_ | (refine S.op rfl ?_; first | refine R.mv rfl ?_) | refine S.seq ?_ | refine S.region ?_ | refine RRun.block ?_)
  refine RRun.loopIn (S.keep [0, 1, 2, 3, 10] rfl (swap_loop q n cap P.length (P.length + X.length + M.length) X.length sp h hn Z _ _ X Y P M 0 hXY (by omega) (by omega) (by omega) hlen ?_))
  repeat' (fail)
  apply S.done rr92
  case hx => repeat (first | exact ResAt.nil)
  rfl
end Go.Proofs.Ythfolomknkobkaa

namespace Go.Proofs.Ythfolomknkobkaa
open Go.Av
open Go.Ad (Run cmpT ltT cmpT_sm ltT_sw)
def r85l0 : RCode :=
  (.seq (.seq (.region [
    ⟨(some 18), none, .act, .mv (.tmp 10)⟩,
    ⟨(some 19), none, .act, .mv (.tmp 11)⟩,
    ⟨(some 20), none, .act, .eq true .int (.tmp 18) (.tmp 19)⟩])
  (.cond (.tmp 20)
   .skip
   (.exit 0)))
  (.block 1
   (.seq (.region [
     ⟨(some 21), none, .act, .mv (.tmp 10)⟩,
     ⟨(some 22), none, .act, .mv (.tmp 11)⟩,
     ⟨(some 23), none, .act, .bin .gtr (.tmp 21) (.tmp 22)⟩])
   (.cond (.tmp 23)
    (.seq (.region [
      ⟨(some 24), none, .act, .mv (.tmp 0)⟩,
      ⟨(some 25), none, .act, .mv (.tmp 2)⟩,
      ⟨(some 26), none, .act, .mv (.tmp 10)⟩,
      ⟨(some 27), none, .act, .bin .sub (.tmp 25) (.tmp 26)⟩,
      ⟨(some 28), none, .act, .mv (.tmp 2)⟩,
      ⟨(some 29), none, .act, .mv (.tmp 11)⟩,
      ⟨(some 30), none, .act, .mv (.tmp 4)⟩,
      ⟨(some 31), none, .act, .call 92 [(.tmp 24), (.tmp 27), (.tmp 28), (.tmp 29), (.tmp 30)]⟩])
    (.region [
      ⟨(some 32), none, .act, .mv (.tmp 10)⟩,
      ⟨(some 33), none, .act, .mv (.tmp 11)⟩,
      ⟨(some 34), none, .act, .bin .sub (.tmp 32) (.tmp 33)⟩,
      ⟨(some 10), none, .act, .mv (.tmp 34)⟩]))
    (.seq (.region [
      ⟨(some 35), none, .act, .mv (.tmp 0)⟩,
      ⟨(some 36), none, .act, .mv (.tmp 2)⟩,
      ⟨(some 37), none, .act, .mv (.tmp 10)⟩,
      ⟨(some 38), none, .act, .bin .sub (.tmp 36) (.tmp 37)⟩,
      ⟨(some 39), none, .act, .mv (.tmp 2)⟩,
      ⟨(some 40), none, .act, .mv (.tmp 11)⟩,
      ⟨(some 41), none, .act, .bin .add (.tmp 39) (.tmp 40)⟩,
      ⟨(some 42), none, .act, .mv (.tmp 10)⟩,
      ⟨(some 43), none, .act, .bin .sub (.tmp 41) (.tmp 42)⟩,
      ⟨(some 44), none, .act, .mv (.tmp 10)⟩,
      ⟨(some 45), none, .act, .mv (.tmp 4)⟩,
      ⟨(some 46), none, .act, .call 92 [(.tmp 35), (.tmp 38), (.tmp 43), (.tmp 44), (.tmp 45)]⟩])
    (.region [
      ⟨(some 47), none, .act, .mv (.tmp 11)⟩,
      ⟨(some 48), none, .act, .mv (.tmp 10)⟩,
      ⟨(some 49), none, .act, .bin .sub (.tmp 47) (.tmp 48)⟩,
      ⟨(some 11), none, .act, .mv (.tmp 49)⟩]))))))
def r85 : RCode :=
  (.seq (.region [
    ⟨(some 12), none, .act, .mv (.tmp 2)⟩,
    ⟨(some 13), none, .act, .mv (.tmp 1)⟩,
    ⟨(some 14), none, .act, .bin .sub (.tmp 12) (.tmp 13)⟩,
    ⟨(some 10), none, .act, .mv (.tmp 14)⟩])
  (.seq (.region [
    ⟨(some 15), none, .act, .mv (.tmp 3)⟩,
    ⟨(some 16), none, .act, .mv (.tmp 2)⟩,
    ⟨(some 17), none, .act, .bin .sub (.tmp 15) (.tmp 16)⟩,
    ⟨(some 11), none, .act, .mv (.tmp 17)⟩])
  (.seq (.block 0
   (.loop r85l0))
  (.region [
    ⟨(some 50), none, .act, .mv (.tmp 0)⟩,
    ⟨(some 51), none, .act, .mv (.tmp 2)⟩,
    ⟨(some 52), none, .act, .mv (.tmp 10)⟩,
    ⟨(some 53), none, .act, .bin .sub (.tmp 51) (.tmp 52)⟩,
    ⟨(some 54), none, .act, .mv (.tmp 2)⟩,
    ⟨(some 55), none, .act, .mv (.tmp 10)⟩,
    ⟨(some 56), none, .act, .mv (.tmp 4)⟩,
    ⟨(some 57), none, .act, .call 92 [(.tmp 50), (.tmp 53), (.tmp 54), (.tmp 55), (.tmp 56)]⟩]))))
theorem res85 : ∃ c, Try.f85.body = some c ∧ resCode Try.prog 58 c = some r85 := ⟨_, rfl, by kernel_rfl⟩
theorem rr85 : resRes Try.prog Try.f85.results.toList = some [] := by kernel_rfl
theorem rot_loop (q n cap m : Nat) (f : AV) (sp : List AV) (h : AHeap) (hn : n ≤ 1000000) (ks : List RT) (Q : AV → AHeap → Prop) (G : List Run)
    (hk : ∀ A X Y B : List Run, X.length = Y.length → A.length + X.length = m → A.length + X.length + Y.length + B.length = n → A ++ Y ++ X ++ B = G → RRun Try.prog Try.f85 58 ks (Env.get [(0, slAt q 0 n cap), (2, i64 m), (4, f), (10, i64 X.length)]) (HR h q (A ++ X ++ Y ++ B) sp) Q) : ∀ (fu : Nat) (A X Y B : List Run), X.length + Y.length ≤ fu → X ≠ [] → Y ≠ [] → A.length + X.length = m → A.length + X.length + Y.length + B.length = n → A ++ Y ++ X ++ B = G →
    RRun Try.prog Try.f85 58 (.inLoop r85l0 :: .inBlock 0 :: ks) (Env.get [(0, slAt q 0 n cap), (2, i64 m), (4, f), (10, i64 X.length), (11, i64 Y.length)]) (HR h q (A ++ X ++ Y ++ B) sp) Q := by
  intro fu
  induction fu with
  | zero =>
    intro A X Y B hfu hX hY _ _ _
    exact absurd (List.eq_nil_of_length_eq_zero (by omega)) hX
  | succ fu ih =>
    intro A X Y B hfu hX hY hm hlen hG
    have hx0 : 0 < X.length := List.length_pos_iff.2 hX
    have hy0 : 0 < Y.length := List.length_pos_iff.2 hY
    rcases Nat.lt_trichotomy X.length Y.length with hlt | heq | hgt
    · have hsplit : Y.take (Y.length - X.length) ++ Y.drop (Y.length - X.length) = Y := List.take_append_drop _ _
      have l1 : (Y.take (Y.length - X.length)).length = Y.length - X.length := by simp
      have l2 : (Y.drop (Y.length - X.length)).length = X.length := by simp; omega
      generalize hY1 : Y.take (Y.length - X.length) = Y1 at hsplit l1
      generalize hY2 : Y.drop (Y.length - X.length) = Y2 at hsplit l2
      have e1 : A ++ X ++ Y ++ B = A ++ X ++ Y1 ++ Y2 ++ B := by rw [← hsplit]; simp
      have e2 : A ++ Y2 ++ Y1 ++ X ++ B = A ++ Y2 ++ Y1 ++ (X ++ B) := by simp
      have c70 := swapRange_spec q n cap sp h hn A X Y1 Y2 B (by omega) (m - X.length) (m + Y.length - X.length) X.length (by omega) (by omega) rfl (by omega) f
      have hih := ih A Y2 Y1 (X ++ B) (by omega) (fun e => by rw [e] at l2; simp at l2; omega) (fun e => by rw [e] at l1; simp at l1; omega) (by omega) (by simp; omega) (by rw [← hG, ← hsplit]; simp)
      rw [e2] at c70
      rw [e1]
      rw [l1, l2] at hih
      generalize X.length = i at *
      generalize Y.length = j at *
      refine RRun.inLoop ?_
      repeat' (first | refine S.nilK ?_ | (refine S.op rfl ?_; first | refine S.addNN rfl rfl (by omega) ?_ | refine S.subNN rfl rfl (by omega) (by omega) ?_ | refine callU rfl rfl c70 (fun _ => ?_) | refine R.mv rfl ?_ | ((first | refine S.gtr rfl rfl ?_ ?_ | refine S.eqInt rfl rfl ?_ ?_) <;> intro hlt <;> try (exfalso; omega))) | refine S.seq ?_ | refine S.region ?_ | refine S.condT rfl ?_ | refine S.condF rfl ?_ | refine RRun.skip ?_ | refine RRun.block ?_ | refine RRun.inBlock ?_)
      exact S.keep [0, 2, 4, 10, 11] rfl hih
    · refine RRun.inLoop ?_
      rw [← heq]
      repeat' (first | refine S.nilK ?_ | (refine S.op rfl ?_; first | refine S.eqIntSame (a := (X.length : Int)) rfl rfl ?_ | refine R.mv rfl ?_) | refine S.seq ?_ | refine S.region ?_ | refine S.condF rfl ?_ | refine RRun.exit rfl ?_)
      exact S.keep [0, 2, 4, 10] rfl (hk A X Y B heq hm hlen hG)
    · have hsplit : X.take Y.length ++ X.drop Y.length = X := List.take_append_drop _ _
      have l1 : (X.take Y.length).length = Y.length := by simp; omega
      have l2 : (X.drop Y.length).length = X.length - Y.length := by simp
      generalize X.take Y.length = X1 at hsplit l1
      generalize X.drop Y.length = X2 at hsplit l2
      have e1 : A ++ X ++ Y ++ B = A ++ X1 ++ X2 ++ Y ++ B := by rw [← hsplit]; simp
      have c70 := swapRange_spec q n cap sp h hn A X1 X2 Y B (by omega) (m - X.length) m Y.length (by omega) (by omega) (by omega) (by omega) f
      have hih := ih (A ++ Y) X2 X1 B (by omega) (fun e => by rw [e] at l2; simp at l2; omega) (fun e => by rw [e] at l1; simp at l1; omega) (by simp; omega) (by simp; omega) (by rw [← hG, ← hsplit]; simp)
      rw [e1]
      rw [l1, l2] at hih
      generalize X.length = i at *
      generalize Y.length = j at *
      refine RRun.inLoop ?_
      repeat' (first | refine S.nilK ?_ | (refine S.op rfl ?_; first | refine S.subNN rfl rfl (by omega) (by omega) ?_ | refine callU rfl rfl c70 (fun _ => ?_) | refine R.mv rfl ?_ | ((first | refine S.gtr rfl rfl ?_ ?_ | refine S.eqInt rfl rfl ?_ ?_) <;> intro hlt <;> try (exfalso; omega))) | refine S.seq ?_ | refine S.region ?_ | refine S.condT rfl ?_ | refine RRun.skip ?_ | refine RRun.block ?_ | refine RRun.inBlock ?_)
      exact S.keep [0, 2, 4, 10, 11] rfl hih
theorem rotate_spec (q n cap : Nat) (sp : List AV) (h : AHeap) (hn : n ≤ 1000000) (P X Y Z : List Run) (hX : X ≠ []) (hY : Y ≠ []) (a m b : Nat) (ha : a = P.length) (hm : m = P.length + X.length) (hb : b = P.length + X.length + Y.length) (hlen : P.length + X.length + Y.length + Z.length = n) (f : AV) :
    ACalls Try.prog 85 [slAt q 0 n cap, i64 a, i64 m, i64 b, f] (HR h q (P ++ X ++ Y ++ Z) sp) (fun _ h' => h' = HR h q (P ++ Y ++ X ++ Z) sp) := by
  obtain ⟨c', hc1, hc2⟩ := res85
  refine ACalls.enter Try.func85 hc1 Try.ntmps85 hc2 (Nat.le_of_ble_eq_true rfl) rfl ?_
  have e1 : m - a = X.length := by omega
  have e2 : b - m = Y.length := by omega
  repeat' (first | refine S.nilK ?_ | (refine S.op rfl ?_; first | refine S.subNN rfl rfl (by omega) (by omega) ?_ | refine R.mv rfl ?_) | refine S.seq ?_ | refine S.region ?_ | refine RRun.block ?_)
  rw [e1, e2]
  refine RRun.loopIn (S.keep [0, 2, 4, 10, 11] rfl (rot_loop q n cap m f sp h hn _ _ (P ++ Y ++ X ++ Z) (fun A X Y B hXY hA hlen' hG => ?_) (X.length + Y.length) P X Y Z (Nat.le_refl _) hX hY (by omega) hlen rfl))
  have c70 := swapRange_spec q n cap sp h hn A X [] Y B hXY (m - X.length) m X.length (by omega) (by simp; omega) rfl (by simp; omega) f
  rw [List.append_nil] at c70
  simp only [List.append_nil] at c70
  rw [hG] at c70
  generalize X.length = i at *
  repeat' (first | refine S.nilK ?_ | (refine S.op rfl ?_; first | refine S.subNN rfl rfl (by omega) (by omega) ?_ | refine callU rfl rfl c70 (fun _ => ?_) | refine R.mv rfl ?_) | refine S.region ?_)
  apply S.done rr85
  case hx => repeat (first | exact ResAt.nil)
  rfl
end Go.Proofs.Ythfolomknkobkaa

namespace Go.Proofs.Ythfolomknkobkaa
open Go.Av
open Go.Ad (Run cmpT ltT cmpT_sm ltT_sw)
structure Box (h : AHeap) (q : Nat) : Prop where
  ok : True
theorem Box.cmp {h : AHeap} {q : Nat} (B : Box h q) (x y : Run) (d : List Run) (sp : List AV) :
    ACalls Try.prog 46 ([] ++ [.ag (runC x), .ag (runC y)] ++ []) (HR h q d sp) (fun z h' => z = i64 (cmpT x y) ∧ h' = HR h q d sp) :=
  cmpT_spec x y _
def r71l1 : RCode :=
  (.seq (.seq (.region [
    ⟨(some 18), none, .pure, .mv (.tmp 9)⟩,
    ⟨(some 19), none, .pure, .mv (.tmp 1)⟩,
    ⟨(some 20), none, .pure, .bin .gtr (.tmp 18) (.tmp 19)⟩,
    ⟨(some 21), none, .pure, .mv (.tmp 20)⟩,
    ⟨(some 22), (some (21, true)), .pure, .mv (.tmp 3)⟩,
    ⟨(some 23), (some (21, true)), .pure, .mv (.tmp 0)⟩,
    ⟨(some 24), (some (21, true)), .pure, .mv (.tmp 9)⟩,
    ⟨(some 25), (some (21, true)), .pure, .indexAddr 8 (.tmp 23) (.tmp 24)⟩,
    ⟨(some 26), (some (21, true)), .read, .load true 8 (.tmp 25)⟩,
    ⟨(some 27), (some (21, true)), .pure, .mv (.tmp 0)⟩,
    ⟨(some 28), (some (21, true)), .pure, .mv (.tmp 9)⟩,
    ⟨(some 29), (some (21, true)), .pure, .bin .sub (.tmp 28) (.const (.int .i64 1))⟩,
    ⟨(some 30), (some (21, true)), .pure, .indexAddr 8 (.tmp 27) (.tmp 29)⟩,
    ⟨(some 31), (some (21, true)), .read, .load true 8 (.tmp 30)⟩,
    ⟨(some 32), (some (21, true)), .act, .callv (.tmp 22) [(.tmp 26), (.tmp 31)]⟩,
    ⟨(some 33), (some (21, true)), .pure, .bin .lss (.tmp 32) (.const (.int .i64 0))⟩,
    ⟨(some 34), none, .pure, .pick (.tmp 21) (.tmp 33) (.const (.bool false))⟩])
  (.cond (.tmp 34)
   .skip
   (.exit 2)))
  (.seq (.block 3
   (.region [
     ⟨(some 37), none, .pure, .mv (.tmp 0)⟩,
     ⟨(some 38), none, .pure, .mv (.tmp 9)⟩,
     ⟨(some 39), none, .pure, .mv (.tmp 0)⟩,
     ⟨(some 40), none, .pure, .mv (.tmp 9)⟩,
     ⟨(some 41), none, .pure, .bin .sub (.tmp 40) (.const (.int .i64 1))⟩,
     ⟨(some 42), none, .pure, .mv (.tmp 0)⟩,
     ⟨(some 43), none, .pure, .mv (.tmp 9)⟩,
     ⟨(some 44), none, .pure, .bin .sub (.tmp 43) (.const (.int .i64 1))⟩,
     ⟨(some 45), none, .pure, .indexAddr 8 (.tmp 42) (.tmp 44)⟩,
     ⟨(some 46), none, .read, .load true 8 (.tmp 45)⟩,
     ⟨(some 47), none, .pure, .mv (.tmp 0)⟩,
     ⟨(some 48), none, .pure, .mv (.tmp 9)⟩,
     ⟨(some 49), none, .pure, .indexAddr 8 (.tmp 47) (.tmp 48)⟩,
     ⟨(some 50), none, .read, .load true 8 (.tmp 49)⟩,
     ⟨(some 51), none, .pure, .indexAddr 8 (.tmp 37) (.tmp 38)⟩,
     ⟨none, none, .act, .store 8 (.tmp 51) (.tmp 46)⟩,
     ⟨(some 52), none, .pure, .indexAddr 8 (.tmp 39) (.tmp 41)⟩,
     ⟨none, none, .act, .store 8 (.tmp 52) (.tmp 50)⟩]))
  (.region [
    ⟨(some 35), none, .act, .mv (.tmp 9)⟩,
    ⟨(some 36), none, .act, .bin .sub (.tmp 35) (.const (.int .i64 1))⟩,
    ⟨(some 9), none, .act, .mv (.tmp 36)⟩])))
def r71l0 : RCode :=
  (.seq (.seq (.region [
    ⟨(some 12), none, .act, .mv (.tmp 8)⟩,
    ⟨(some 13), none, .act, .mv (.tmp 2)⟩,
    ⟨(some 14), none, .act, .bin .lss (.tmp 12) (.tmp 13)⟩])
  (.cond (.tmp 14)
   .skip
   (.exit 0)))
  (.seq (.block 1
   (.seq (.region [
     ⟨(some 17), none, .act, .mv (.tmp 8)⟩,
     ⟨(some 9), none, .act, .mv (.tmp 17)⟩])
   (.block 2
    (.loop r71l1))))
  (.region [
    ⟨(some 15), none, .act, .mv (.tmp 8)⟩,
    ⟨(some 16), none, .act, .bin .add (.tmp 15) (.const (.int .i64 1))⟩,
    ⟨(some 8), none, .act, .mv (.tmp 16)⟩])))
def r71 : RCode :=
  (.seq (.region [
    ⟨(some 10), none, .act, .mv (.tmp 1)⟩,
    ⟨(some 11), none, .act, .bin .add (.tmp 10) (.const (.int .i64 1))⟩,
    ⟨(some 8), none, .act, .mv (.tmp 11)⟩])
  (.block 0
   (.loop r71l0)))
theorem res71 : ∃ c, Try.f71.body = some c ∧ resCode Try.prog 53 c = some r71 := ⟨_, rfl, by kernel_rfl⟩
theorem rr71 : resRes Try.prog Try.f71.results.toList = some [] := by kernel_rfl
theorem isc_step {h : AHeap} {q : Nat} (B : Box h q) (n cap a b i j : Nat) (d : List Run) (x y : Run) (sp : List AV) (hn : n ≤ 1000000) (hd : d.length = n) (hj : a < j) (hjn : j < n) (hX : d[j]? = some x) (hY : d[j - 1]? = some y) (ks : List RT) (Q : AV → AHeap → Prop)
    (H1 : ltT x y = true → RRun Try.prog Try.f71 53 (.inLoop r71l1 :: .inBlock 2 :: ks) (Env.get [(0, slAt q 0 n cap), (1, i64 a), (2, i64 b), (3, cmpA), (8, i64 i), (9, i64 (j - 1 : Nat))]) (HR h q ((d.set j y).set (j - 1) x) sp) Q)
    (H2 : ltT x y = false → RRun Try.prog Try.f71 53 ks (Env.get [(0, slAt q 0 n cap), (1, i64 a), (2, i64 b), (3, cmpA), (8, i64 i)]) (HR h q d sp) Q) :
    RRun Try.prog Try.f71 53 (.inLoop r71l1 :: .inBlock 2 :: ks) (Env.get [(0, slAt q 0 n cap), (1, i64 a), (2, i64 b), (3, cmpA), (8, i64 i), (9, i64 j)]) (HR h q d sp) Q := by
  have c29 := B.cmp x y d sp
  have hsm := cmpT_sm x y
  unfold ltT at H1 H2
  generalize cmpT x y = o at c29 hsm H1 H2
  refine RRun.inLoop ?_
  rcases hsm with rfl | rfl | rfl
  · repeat' (first | (refine S.op0 rfl (stR rfl rfl rfl (by (try simp only [List.length_set]); omega) ?_)) | refine S.nilK ?_ | (refine S.op rfl ?_; first | refine S.subNN (n := 1) rfl rfl (by omega) (by omega) ?_ | refine S.ixN rfl rfl (by omega) ?_ | refine ldR (by decide) rfl hX ?_ | refine ldR (by decide) rfl hY ?_ | refine R.callAQ (by decide) rfl hp46 rfl c29 ?_ | refine R.mv rfl ?_ | refine R.pickT rfl rfl ?_ | ((first | refine S.lss rfl rfl ?_ ?_ | refine S.gtr rfl rfl ?_ ?_) <;> intro hlt <;> try (exfalso; omega))) | refine S.seq ?_ | refine S.region ?_ | refine S.condT rfl ?_ | refine RRun.skip ?_ | refine RRun.block ?_ | refine RRun.inBlock ?_)
    exact S.keep [0, 1, 2, 3, 8, 9] rfl (H1 (by decide))
  · repeat' (first | refine S.nilK ?_ | (refine S.op rfl ?_; first | refine S.subNN (n := 1) rfl rfl (by omega) (by omega) ?_ | refine S.ixN rfl rfl (by omega) ?_ | refine ldR (by decide) rfl hX ?_ | refine ldR (by decide) rfl hY ?_ | refine R.callAQ (by decide) rfl hp46 rfl c29 ?_ | refine R.mv rfl ?_ | refine R.pickT rfl rfl ?_ | ((first | refine S.lss rfl rfl ?_ ?_ | refine S.gtr rfl rfl ?_ ?_) <;> intro hlt <;> try (exfalso; omega))) | refine S.seq ?_ | refine S.region ?_ | refine S.condF rfl ?_ | refine RRun.exit rfl ?_)
    exact S.keep [0, 1, 2, 3, 8] rfl (H2 (by decide))
  · repeat' (first | refine S.nilK ?_ | (refine S.op rfl ?_; first | refine S.subNN (n := 1) rfl rfl (by omega) (by omega) ?_ | refine S.ixN rfl rfl (by omega) ?_ | refine ldR (by decide) rfl hX ?_ | refine ldR (by decide) rfl hY ?_ | refine R.callAQ (by decide) rfl hp46 rfl c29 ?_ | refine R.mv rfl ?_ | refine R.pickT rfl rfl ?_ | ((first | refine S.lss rfl rfl ?_ ?_ | refine S.gtr rfl rfl ?_ ?_) <;> intro hlt <;> try (exfalso; omega))) | refine S.seq ?_ | refine S.region ?_ | refine S.condF rfl ?_ | refine RRun.exit rfl ?_)
    exact S.keep [0, 1, 2, 3, 8] rfl (H2 (by decide))
theorem isc_in {h : AHeap} {q : Nat} (B : Box h q) (n cap a b i : Nat) (P Z T : List Run) (x : Run) (sp : List AV) (hn : n ≤ 1000000) (hd : P.length + (T.length + 1) + Z.length = n) (ha : a = P.length) (hT : St.Sorted ltT T) (ks : List RT) (Q : AV → AHeap → Prop)
    (H : RRun Try.prog Try.f71 53 ks (Env.get [(0, slAt q 0 n cap), (1, i64 a), (2, i64 b), (3, cmpA), (8, i64 i)]) (HR h q (P ++ St.ins ltT x T ++ Z) sp) Q) : ∀ (m : Nat) (L1 L2 : List Run) (j : Nat), j = a + m → L1.length = m → T = L1 ++ L2 → (∀ y, L2.head? = some y → ltT x y = true) →
    RRun Try.prog Try.f71 53 (.inLoop r71l1 :: .inBlock 2 :: ks) (Env.get [(0, slAt q 0 n cap), (1, i64 a), (2, i64 b), (3, cmpA), (8, i64 i), (9, i64 j)]) (HR h q (P ++ (L1 ++ x :: L2) ++ Z) sp) Q := by
  intro m
  induction m with
  | zero =>
    intro L1 L2 j hj hm hTe h2
    subst hj
    have h0 := List.eq_nil_of_length_eq_zero hm
    subst h0
    have e : St.ins ltT x T = [] ++ x :: L2 := by rw [hTe]; exact St.ins_at (fun y hy => by cases hy) h2
    rw [e] at H
    refine RRun.inLoop ?_
    repeat' (first | refine S.nilK ?_ | (refine S.op rfl ?_; first | refine R.mv rfl ?_ | refine R.pickF rfl rfl ?_ | ((first | refine S.gtr rfl rfl ?_ ?_) <;> intro hlt <;> try (exfalso; omega))) | refine S.skip rfl ?_ | refine S.seq ?_ | refine S.region ?_ | refine S.condF rfl ?_ | refine RRun.exit rfl ?_)
    exact S.keep [0, 1, 2, 3, 8] rfl H
  | succ m ih =>
    intro L1 L2 j hj hm hTe h2
    subst hj
    rcases List.eq_nil_or_concat L1 with h0 | ⟨L1, y, rfl⟩
    · rw [h0] at hm; simp at hm
    · rw [List.concat_eq_append] at *
      have hm' : L1.length = m := by simpa using hm
      have hX : (P ++ (L1 ++ [y] ++ x :: L2) ++ Z)[a + (m + 1)]? = some x := by
        have e : P ++ (L1 ++ [y] ++ x :: L2) ++ Z = (P ++ L1 ++ [y]) ++ x :: (L2 ++ Z) := by simp
        have e2 : a + (m + 1) = (P ++ L1 ++ [y]).length := by simp; omega
        rw [e, e2]; exact get_mid _ _ _
      have hY : (P ++ (L1 ++ [y] ++ x :: L2) ++ Z)[a + (m + 1) - 1]? = some y := by
        have e : P ++ (L1 ++ [y] ++ x :: L2) ++ Z = (P ++ L1) ++ y :: (x :: L2 ++ Z) := by simp
        have e2 : a + (m + 1) - 1 = (P ++ L1).length := by simp; omega
        rw [e, e2]; exact get_mid _ _ _
      have hlen : (L1 ++ L2).length + 1 = T.length := by rw [hTe]; simp; omega
      simp only [List.length_append] at hlen
      have e3 : ((P ++ (L1 ++ [y] ++ x :: L2) ++ Z).set (a + (m + 1)) y).set (a + (m + 1) - 1) x = P ++ (L1 ++ x :: y :: L2) ++ Z := by
        have e : P ++ (L1 ++ [y] ++ x :: L2) ++ Z = (P ++ L1 ++ [y]) ++ x :: (L2 ++ Z) := by simp
        have e2 : a + (m + 1) = (P ++ L1 ++ [y]).length := by simp; omega
        rw [e, e2, set_mid]
        have e : P ++ L1 ++ [y] ++ y :: (L2 ++ Z) = (P ++ L1) ++ y :: (y :: L2 ++ Z) := by simp
        have e2 : (P ++ L1 ++ [y]).length - 1 = (P ++ L1).length := by simp
        rw [e, e2, set_mid]; simp
      refine isc_step B n cap a b i (a + (m + 1)) _ x y sp hn (by simp; omega) (by omega) (by omega) hX hY ks Q (fun hlt => ?_) (fun hge => ?_)
      · rw [e3, show a + (m + 1) - 1 = a + m by omega]
        exact ih L1 (y :: L2) _ rfl hm' (by rw [hTe]; simp) (fun z hz => by cases hz; exact hlt)
      · have e : St.ins ltT x T = (L1 ++ [y]) ++ x :: L2 := by
          rw [hTe]
          refine St.ins_at (fun z hz => ?_) h2
          rcases List.mem_append.1 hz with hz | hz
          · rw [hTe] at hT
            have h3 := List.pairwise_append.1 (List.pairwise_append.1 hT).1
            exact ltT_sw.neg _ _ _ hge (h3.2.2 z hz y (List.mem_singleton.2 rfl))
          · rw [List.mem_singleton.1 hz]; exact hge
        rw [e] at H
        exact H
theorem isc_out {h : AHeap} {q : Nat} (B : Box h q) (n cap a b : Nat) (P Z : List Run) (sp : List AV) (hn : n ≤ 1000000) (ha : a = P.length) (ks : List RT) (Q : AV → AHeap → Prop) : ∀ (U T : List Run) (i : Nat), St.Sorted ltT T → i = a + T.length → b = i + U.length → P.length + T.length + U.length + Z.length = n →
    RRun Try.prog Try.f71 53 ks (Env.get []) (HR h q (P ++ U.foldl (fun acc x => St.ins ltT x acc) T ++ Z) sp) Q →
    RRun Try.prog Try.f71 53 (.inLoop r71l0 :: .inBlock 0 :: ks) (Env.get [(0, slAt q 0 n cap), (1, i64 a), (2, i64 b), (3, cmpA), (8, i64 i)]) (HR h q (P ++ T ++ U ++ Z) sp) Q
  | [], T, i, hT, hi, hb, hlen, hk => by
    simp only [List.length_nil] at hb
    rw [List.append_nil]
    refine RRun.inLoop ?_
    repeat' (first | refine S.nilK ?_ | (refine S.op rfl ?_; first | refine R.mv rfl ?_ | ((first | refine S.lss rfl rfl ?_ ?_) <;> intro hlt <;> try (exfalso; omega))) | refine S.seq ?_ | refine S.region ?_ | refine S.condF rfl ?_ | refine RRun.exit rfl ?_)
    exact S.keep [] rfl hk
  | x :: U, T, i, hT, hi, hb, hlen, hk => by
    simp only [List.length_cons] at hb hlen
    have hl1 : (St.ins ltT x T).length = T.length + 1 := by rw [St.ins_perm.length_eq]; simp
    have hih := isc_out B n cap a b P Z sp hn ha ks Q U (St.ins ltT x T) (i + 1) (St.ins_sorted ltT_sw hT) (by omega) (by omega) (by omega) hk
    have e1 : P ++ T ++ x :: U ++ Z = P ++ (T ++ x :: []) ++ (U ++ Z) := by simp
    have e2 : P ++ St.ins ltT x T ++ U ++ Z = P ++ St.ins ltT x T ++ (U ++ Z) := by simp
    rw [e1]
    rw [e2] at hih
    refine RRun.inLoop ?_
    repeat' (first | refine S.nilK ?_ | (refine S.op rfl ?_; first | refine R.mv rfl ?_ | ((first | refine S.lss rfl rfl ?_ ?_) <;> intro hlt <;> try (exfalso; omega))) | refine S.seq ?_ | refine S.region ?_ | refine S.condT rfl ?_ | refine RRun.skip ?_ | refine RRun.block ?_)
    refine RRun.loopIn (S.keep [0, 1, 2, 3, 8, 9] rfl (isc_in B n cap a b i P (U ++ Z) T x sp hn (by simp; omega) ha hT _ Q ?_ T.length T [] i hi rfl (by simp) (fun y hy => by cases hy)))
    repeat' (first | refine S.nilK ?_ | (refine S.op rfl ?_; first | refine R.mv rfl ?_ | refine S.addI rfl rfl (by omega) ?_) | refine S.region ?_ | refine RRun.inBlock ?_)
    rw [show ((i : Int) + 1) = ((i + 1 : Nat) : Int) by omega]
    exact S.keep [0, 1, 2, 3, 8] rfl hih
theorem insertion_spec {h : AHeap} {q : Nat} (B : Box h q) (n cap a b : Nat) (P A Z : List Run) (sp : List AV) (hn : n ≤ 1000000) (hA : A ≠ []) (ha : a = P.length) (hb : b = P.length + A.length) (hlen : P.length + A.length + Z.length = n) :
    ACalls Try.prog 71 [slAt q 0 n cap, i64 a, i64 b, cmpA] (HR h q (P ++ A ++ Z) sp) (fun _ h' => h' = HR h q (P ++ St.isort ltT A ++ Z) sp) := by
  obtain ⟨c', hc1, hc2⟩ := res71
  refine ACalls.enter Try.func71 hc1 Try.ntmps71 hc2 (Nat.le_of_ble_eq_true rfl) rfl ?_
  obtain ⟨x, A, rfl⟩ := List.exists_cons_of_ne_nil hA
  simp only [List.length_cons] at hb hlen
  have e1 : P ++ x :: A ++ Z = P ++ [x] ++ A ++ Z := by simp
  have e2 : St.isort ltT (x :: A) = A.foldl (fun acc x => St.ins ltT x acc) [x] := rfl
  rw [e1, e2]
  repeat' (first | refine S.nilK ?_ | (refine S.op rfl ?_; first | refine R.mv rfl ?_ | refine S.addI rfl rfl (by omega) ?_) | refine S.seq ?_ | refine S.region ?_ | refine RRun.block ?_)
  rw [show ((a : Int) + 1) = ((a + 1 : Nat) : Int) by omega]
  refine RRun.loopIn (S.keep [0, 1, 2, 3, 8] rfl (isc_out B n cap a b P Z sp hn ha _ _ A [x] (a + 1) (by simp [St.Sorted]) rfl (by omega) (by simp; omega) ?_))
  repeat' (fail)
  apply S.done rr71
  case hx => repeat (first | exact ResAt.nil)
  rfl
end Go.Proofs.Ythfolomknkobkaa

namespace Go.Av
section
variable {P : Program} {c : Cls} {E : AEnv} {h : AHeap} {K : AV → AHeap → Prop}
theorem S.half {x : Operand} {n : Nat} (hx : aev E x = some (.v (.int .u64 (n : Int)))) (hk : K (.v (.int .u64 ((n / 2 : Nat) : Int))) h) : ROpS P c (.bin .shr x (.const (.int .u64 1))) E h K :=
  S.shrN (s := 1) (by decide) hx hk
theorem S.convI {x : Operand} {m : Nat} (hm : m ≤ 9223372036854775807) (hx : aev E x = some (.v (.int .u64 (m : Int)))) (hk : K (i64 m) h) : ROpS P c (.convInt .i64 x) E h K :=
  R.convInt hx (by rw [wrap_i64 (by omega) (by omega)]; exact hk)
end
theorem St.Falls.up {p : Nat → Bool} {lo hi k : Nat} (f : St.Falls p lo hi) (h1 : k < hi) (h2 : p k = true) : ∀ j, lo ≤ j → j < k + 1 → p j = true := fun j g1 g2 => f j k g1 (by omega) h1 h2
theorem St.Falls.down {p : Nat → Bool} {lo hi k : Nat} (f : St.Falls p lo hi) (h1 : lo ≤ k) (h2 : p k = false) : ∀ j, k ≤ j → j < hi → p j = false := fun j g1 g2 => by
  cases hj : p j with
  | false => rfl
  | true => rw [f k j h1 g1 g2 hj] at h2; cases h2
end Go.Av
namespace Go.Proofs.Ythfolomknkobkaa
open Go.Av
open Go.Ad (Run cmpT ltT cmpT_sm ltT_sw)
def r72l0 : RCode :=
  (.seq (.seq (.region [
    ⟨(some 31), none, .act, .mv (.tmp 10)⟩,
    ⟨(some 32), none, .act, .mv (.tmp 11)⟩,
    ⟨(some 33), none, .act, .bin .lss (.tmp 31) (.tmp 32)⟩])
  (.cond (.tmp 33)
   .skip
   (.exit 0)))
  (.block 1
   (.seq (.region [
     ⟨(some 34), none, .act, .mv (.tmp 10)⟩,
     ⟨(some 35), none, .act, .mv (.tmp 11)⟩,
     ⟨(some 36), none, .act, .bin .add (.tmp 34) (.tmp 35)⟩,
     ⟨(some 37), none, .act, .convInt .u64 (.tmp 36)⟩,
     ⟨(some 38), none, .act, .bin .shr (.tmp 37) (.const (.int .u64 1))⟩,
     ⟨(some 39), none, .act, .convInt .i64 (.tmp 38)⟩,
     ⟨(some 12), none, .act, .mv (.tmp 39)⟩])
   (.seq (.region [
     ⟨(some 40), none, .pure, .mv (.tmp 4)⟩,
     ⟨(some 41), none, .pure, .mv (.tmp 0)⟩,
     ⟨(some 42), none, .pure, .mv (.tmp 12)⟩,
     ⟨(some 43), none, .pure, .indexAddr 8 (.tmp 41) (.tmp 42)⟩,
     ⟨(some 44), none, .read, .load true 8 (.tmp 43)⟩,
     ⟨(some 45), none, .pure, .mv (.tmp 0)⟩,
     ⟨(some 46), none, .pure, .mv (.tmp 1)⟩,
     ⟨(some 47), none, .pure, .indexAddr 8 (.tmp 45) (.tmp 46)⟩,
     ⟨(some 48), none, .read, .load true 8 (.tmp 47)⟩,
     ⟨(some 49), none, .act, .callv (.tmp 40) [(.tmp 44), (.tmp 48)]⟩,
     ⟨(some 50), none, .pure, .bin .lss (.tmp 49) (.const (.int .i64 0))⟩])
   (.cond (.tmp 50)
    (.region [
      ⟨(some 51), none, .act, .mv (.tmp 12)⟩,
      ⟨(some 52), none, .act, .bin .add (.tmp 51) (.const (.int .i64 1))⟩,
      ⟨(some 10), none, .act, .mv (.tmp 52)⟩])
    (.region [
      ⟨(some 53), none, .act, .mv (.tmp 12)⟩,
      ⟨(some 11), none, .act, .mv (.tmp 53)⟩]))))))
def r72l1 : RCode :=
  (.seq (.seq (.region [
    ⟨(some 55), none, .act, .mv (.tmp 13)⟩,
    ⟨(some 56), none, .act, .mv (.tmp 10)⟩,
    ⟨(some 57), none, .act, .bin .sub (.tmp 56) (.const (.int .i64 1))⟩,
    ⟨(some 58), none, .act, .bin .lss (.tmp 55) (.tmp 57)⟩])
  (.cond (.tmp 58)
   .skip
   (.exit 2)))
  (.seq (.block 3
   (.region [
     ⟨(some 61), none, .pure, .mv (.tmp 0)⟩,
     ⟨(some 62), none, .pure, .mv (.tmp 13)⟩,
     ⟨(some 63), none, .pure, .mv (.tmp 0)⟩,
     ⟨(some 64), none, .pure, .mv (.tmp 13)⟩,
     ⟨(some 65), none, .pure, .bin .add (.tmp 64) (.const (.int .i64 1))⟩,
     ⟨(some 66), none, .pure, .mv (.tmp 0)⟩,
     ⟨(some 67), none, .pure, .mv (.tmp 13)⟩,
     ⟨(some 68), none, .pure, .bin .add (.tmp 67) (.const (.int .i64 1))⟩,
     ⟨(some 69), none, .pure, .indexAddr 8 (.tmp 66) (.tmp 68)⟩,
     ⟨(some 70), none, .read, .load true 8 (.tmp 69)⟩,
     ⟨(some 71), none, .pure, .mv (.tmp 0)⟩,
     ⟨(some 72), none, .pure, .mv (.tmp 13)⟩,
     ⟨(some 73), none, .pure, .indexAddr 8 (.tmp 71) (.tmp 72)⟩,
     ⟨(some 74), none, .read, .load true 8 (.tmp 73)⟩,
     ⟨(some 75), none, .pure, .indexAddr 8 (.tmp 61) (.tmp 62)⟩,
     ⟨none, none, .act, .store 8 (.tmp 75) (.tmp 70)⟩,
     ⟨(some 76), none, .pure, .indexAddr 8 (.tmp 63) (.tmp 65)⟩,
     ⟨none, none, .act, .store 8 (.tmp 76) (.tmp 74)⟩]))
  (.region [
    ⟨(some 59), none, .act, .mv (.tmp 13)⟩,
    ⟨(some 60), none, .act, .bin .add (.tmp 59) (.const (.int .i64 1))⟩,
    ⟨(some 13), none, .act, .mv (.tmp 60)⟩])))
def r72l2 : RCode :=
  (.seq (.seq (.region [
    ⟨(some 83), none, .act, .mv (.tmp 14)⟩,
    ⟨(some 84), none, .act, .mv (.tmp 15)⟩,
    ⟨(some 85), none, .act, .bin .lss (.tmp 83) (.tmp 84)⟩])
  (.cond (.tmp 85)
   .skip
   (.exit 4)))
  (.block 5
   (.seq (.region [
     ⟨(some 86), none, .act, .mv (.tmp 14)⟩,
     ⟨(some 87), none, .act, .mv (.tmp 15)⟩,
     ⟨(some 88), none, .act, .bin .add (.tmp 86) (.tmp 87)⟩,
     ⟨(some 89), none, .act, .convInt .u64 (.tmp 88)⟩,
     ⟨(some 90), none, .act, .bin .shr (.tmp 89) (.const (.int .u64 1))⟩,
     ⟨(some 91), none, .act, .convInt .i64 (.tmp 90)⟩,
     ⟨(some 16), none, .act, .mv (.tmp 91)⟩])
   (.seq (.region [
     ⟨(some 92), none, .pure, .mv (.tmp 4)⟩,
     ⟨(some 93), none, .pure, .mv (.tmp 0)⟩,
     ⟨(some 94), none, .pure, .mv (.tmp 2)⟩,
     ⟨(some 95), none, .pure, .indexAddr 8 (.tmp 93) (.tmp 94)⟩,
     ⟨(some 96), none, .read, .load true 8 (.tmp 95)⟩,
     ⟨(some 97), none, .pure, .mv (.tmp 0)⟩,
     ⟨(some 98), none, .pure, .mv (.tmp 16)⟩,
     ⟨(some 99), none, .pure, .indexAddr 8 (.tmp 97) (.tmp 98)⟩,
     ⟨(some 100), none, .read, .load true 8 (.tmp 99)⟩,
     ⟨(some 101), none, .act, .callv (.tmp 92) [(.tmp 96), (.tmp 100)]⟩,
     ⟨(some 102), none, .pure, .bin .lss (.tmp 101) (.const (.int .i64 0))⟩,
     ⟨(some 103), none, .pure, .un .not (.tmp 102)⟩])
   (.cond (.tmp 103)
    (.region [
      ⟨(some 104), none, .act, .mv (.tmp 16)⟩,
      ⟨(some 105), none, .act, .bin .add (.tmp 104) (.const (.int .i64 1))⟩,
      ⟨(some 14), none, .act, .mv (.tmp 105)⟩])
    (.region [
      ⟨(some 106), none, .act, .mv (.tmp 16)⟩,
      ⟨(some 15), none, .act, .mv (.tmp 106)⟩]))))))
def r72l3 : RCode :=
  (.seq (.seq (.region [
    ⟨(some 108), none, .act, .mv (.tmp 17)⟩,
    ⟨(some 109), none, .act, .mv (.tmp 14)⟩,
    ⟨(some 110), none, .act, .bin .gtr (.tmp 108) (.tmp 109)⟩])
  (.cond (.tmp 110)
   .skip
   (.exit 6)))
  (.seq (.block 7
   (.region [
     ⟨(some 113), none, .pure, .mv (.tmp 0)⟩,
     ⟨(some 114), none, .pure, .mv (.tmp 17)⟩,
     ⟨(some 115), none, .pure, .mv (.tmp 0)⟩,
     ⟨(some 116), none, .pure, .mv (.tmp 17)⟩,
     ⟨(some 117), none, .pure, .bin .sub (.tmp 116) (.const (.int .i64 1))⟩,
     ⟨(some 118), none, .pure, .mv (.tmp 0)⟩,
     ⟨(some 119), none, .pure, .mv (.tmp 17)⟩,
     ⟨(some 120), none, .pure, .bin .sub (.tmp 119) (.const (.int .i64 1))⟩,
     ⟨(some 121), none, .pure, .indexAddr 8 (.tmp 118) (.tmp 120)⟩,
     ⟨(some 122), none, .read, .load true 8 (.tmp 121)⟩,
     ⟨(some 123), none, .pure, .mv (.tmp 0)⟩,
     ⟨(some 124), none, .pure, .mv (.tmp 17)⟩,
     ⟨(some 125), none, .pure, .indexAddr 8 (.tmp 123) (.tmp 124)⟩,
     ⟨(some 126), none, .read, .load true 8 (.tmp 125)⟩,
     ⟨(some 127), none, .pure, .indexAddr 8 (.tmp 113) (.tmp 114)⟩,
     ⟨none, none, .act, .store 8 (.tmp 127) (.tmp 122)⟩,
     ⟨(some 128), none, .pure, .indexAddr 8 (.tmp 115) (.tmp 117)⟩,
     ⟨none, none, .act, .store 8 (.tmp 128) (.tmp 126)⟩]))
  (.region [
    ⟨(some 111), none, .act, .mv (.tmp 17)⟩,
    ⟨(some 112), none, .act, .bin .sub (.tmp 111) (.const (.int .i64 1))⟩,
    ⟨(some 17), none, .act, .mv (.tmp 112)⟩])))
def r72l4 : RCode :=
  (.seq (.seq (.region [
    ⟨(some 149), none, .act, .mv (.tmp 20)⟩,
    ⟨(some 150), none, .act, .mv (.tmp 21)⟩,
    ⟨(some 151), none, .act, .bin .lss (.tmp 149) (.tmp 150)⟩])
  (.cond (.tmp 151)
   .skip
   (.exit 8)))
  (.block 9
   (.seq (.region [
     ⟨(some 152), none, .act, .mv (.tmp 20)⟩,
     ⟨(some 153), none, .act, .mv (.tmp 21)⟩,
     ⟨(some 154), none, .act, .bin .add (.tmp 152) (.tmp 153)⟩,
     ⟨(some 155), none, .act, .convInt .u64 (.tmp 154)⟩,
     ⟨(some 156), none, .act, .bin .shr (.tmp 155) (.const (.int .u64 1))⟩,
     ⟨(some 157), none, .act, .convInt .i64 (.tmp 156)⟩,
     ⟨(some 23), none, .act, .mv (.tmp 157)⟩])
   (.seq (.region [
     ⟨(some 158), none, .pure, .mv (.tmp 4)⟩,
     ⟨(some 159), none, .pure, .mv (.tmp 0)⟩,
     ⟨(some 160), none, .pure, .mv (.tmp 22)⟩,
     ⟨(some 161), none, .pure, .mv (.tmp 23)⟩,
     ⟨(some 162), none, .pure, .bin .sub (.tmp 160) (.tmp 161)⟩,
     ⟨(some 163), none, .pure, .indexAddr 8 (.tmp 159) (.tmp 162)⟩,
     ⟨(some 164), none, .read, .load true 8 (.tmp 163)⟩,
     ⟨(some 165), none, .pure, .mv (.tmp 0)⟩,
     ⟨(some 166), none, .pure, .mv (.tmp 23)⟩,
     ⟨(some 167), none, .pure, .indexAddr 8 (.tmp 165) (.tmp 166)⟩,
     ⟨(some 168), none, .read, .load true 8 (.tmp 167)⟩,
     ⟨(some 169), none, .act, .callv (.tmp 158) [(.tmp 164), (.tmp 168)]⟩,
     ⟨(some 170), none, .pure, .bin .lss (.tmp 169) (.const (.int .i64 0))⟩,
     ⟨(some 171), none, .pure, .un .not (.tmp 170)⟩])
   (.cond (.tmp 171)
    (.region [
      ⟨(some 172), none, .act, .mv (.tmp 23)⟩,
      ⟨(some 173), none, .act, .bin .add (.tmp 172) (.const (.int .i64 1))⟩,
      ⟨(some 20), none, .act, .mv (.tmp 173)⟩])
    (.region [
      ⟨(some 174), none, .act, .mv (.tmp 23)⟩,
      ⟨(some 21), none, .act, .mv (.tmp 174)⟩]))))))
def r72 : RCode :=
  (.seq (.seq (.region [
    ⟨(some 25), none, .act, .mv (.tmp 2)⟩,
    ⟨(some 26), none, .act, .mv (.tmp 1)⟩,
    ⟨(some 27), none, .act, .bin .sub (.tmp 25) (.tmp 26)⟩,
    ⟨(some 28), none, .act, .eq false .int (.tmp 27) (.const (.int .i64 1))⟩])
  (.cond (.tmp 28)
   (.seq (.region [
     ⟨(some 29), none, .act, .mv (.tmp 2)⟩,
     ⟨(some 10), none, .act, .mv (.tmp 29)⟩])
   (.seq (.region [
     ⟨(some 30), none, .act, .mv (.tmp 3)⟩,
     ⟨(some 11), none, .act, .mv (.tmp 30)⟩])
   (.seq (.block 0
    (.loop r72l0))
   (.seq (.seq (.region [
     ⟨(some 54), none, .act, .mv (.tmp 1)⟩,
     ⟨(some 13), none, .act, .mv (.tmp 54)⟩])
   (.block 2
    (.loop r72l1)))
   .ret))))
   .skip))
  (.seq (.seq (.region [
    ⟨(some 77), none, .act, .mv (.tmp 3)⟩,
    ⟨(some 78), none, .act, .mv (.tmp 2)⟩,
    ⟨(some 79), none, .act, .bin .sub (.tmp 77) (.tmp 78)⟩,
    ⟨(some 80), none, .act, .eq false .int (.tmp 79) (.const (.int .i64 1))⟩])
  (.cond (.tmp 80)
   (.seq (.region [
     ⟨(some 81), none, .act, .mv (.tmp 1)⟩,
     ⟨(some 14), none, .act, .mv (.tmp 81)⟩])
   (.seq (.region [
     ⟨(some 82), none, .act, .mv (.tmp 2)⟩,
     ⟨(some 15), none, .act, .mv (.tmp 82)⟩])
   (.seq (.block 4
    (.loop r72l2))
   (.seq (.seq (.region [
     ⟨(some 107), none, .act, .mv (.tmp 2)⟩,
     ⟨(some 17), none, .act, .mv (.tmp 107)⟩])
   (.block 6
    (.loop r72l3)))
   .ret))))
   .skip))
  (.seq (.region [
    ⟨(some 129), none, .act, .mv (.tmp 1)⟩,
    ⟨(some 130), none, .act, .mv (.tmp 3)⟩,
    ⟨(some 131), none, .act, .bin .add (.tmp 129) (.tmp 130)⟩,
    ⟨(some 132), none, .act, .convInt .u64 (.tmp 131)⟩,
    ⟨(some 133), none, .act, .bin .shr (.tmp 132) (.const (.int .u64 1))⟩,
    ⟨(some 134), none, .act, .convInt .i64 (.tmp 133)⟩,
    ⟨(some 18), none, .act, .mv (.tmp 134)⟩])
  (.seq (.region [
    ⟨(some 135), none, .act, .mv (.tmp 18)⟩,
    ⟨(some 136), none, .act, .mv (.tmp 2)⟩,
    ⟨(some 137), none, .act, .bin .add (.tmp 135) (.tmp 136)⟩,
    ⟨(some 19), none, .act, .mv (.tmp 137)⟩])
  (.seq (.region [
    ⟨(some 20), none, .act, .mv (.const (.int .i64 0))⟩,
    ⟨(some 21), none, .act, .mv (.const (.int .i64 0))⟩])
  (.seq (.seq (.region [
    ⟨(some 138), none, .act, .mv (.tmp 2)⟩,
    ⟨(some 139), none, .act, .mv (.tmp 18)⟩,
    ⟨(some 140), none, .act, .bin .gtr (.tmp 138) (.tmp 139)⟩])
  (.cond (.tmp 140)
   (.seq (.region [
     ⟨(some 141), none, .act, .mv (.tmp 19)⟩,
     ⟨(some 142), none, .act, .mv (.tmp 3)⟩,
     ⟨(some 143), none, .act, .bin .sub (.tmp 141) (.tmp 142)⟩,
     ⟨(some 20), none, .act, .mv (.tmp 143)⟩])
   (.region [
     ⟨(some 144), none, .act, .mv (.tmp 18)⟩,
     ⟨(some 21), none, .act, .mv (.tmp 144)⟩]))
   (.seq (.region [
     ⟨(some 145), none, .act, .mv (.tmp 1)⟩,
     ⟨(some 20), none, .act, .mv (.tmp 145)⟩])
   (.region [
     ⟨(some 146), none, .act, .mv (.tmp 2)⟩,
     ⟨(some 21), none, .act, .mv (.tmp 146)⟩]))))
  (.seq (.region [
    ⟨(some 147), none, .act, .mv (.tmp 19)⟩,
    ⟨(some 148), none, .act, .bin .sub (.tmp 147) (.const (.int .i64 1))⟩,
    ⟨(some 22), none, .act, .mv (.tmp 148)⟩])
  (.seq (.block 8
   (.loop r72l4))
  (.seq (.region [
    ⟨(some 175), none, .act, .mv (.tmp 19)⟩,
    ⟨(some 176), none, .act, .mv (.tmp 20)⟩,
    ⟨(some 177), none, .act, .bin .sub (.tmp 175) (.tmp 176)⟩,
    ⟨(some 24), none, .act, .mv (.tmp 177)⟩])
  (.seq (.seq (.region [
    ⟨(some 178), none, .act, .mv (.tmp 20)⟩,
    ⟨(some 179), none, .act, .mv (.tmp 2)⟩,
    ⟨(some 180), none, .act, .bin .lss (.tmp 178) (.tmp 179)⟩,
    ⟨(some 181), none, .act, .mv (.tmp 180)⟩,
    ⟨(some 182), (some (181, true)), .act, .mv (.tmp 2)⟩,
    ⟨(some 183), (some (181, true)), .act, .mv (.tmp 24)⟩,
    ⟨(some 184), (some (181, true)), .act, .bin .lss (.tmp 182) (.tmp 183)⟩,
    ⟨(some 185), none, .act, .pick (.tmp 181) (.tmp 184) (.const (.bool false))⟩])
  (.cond (.tmp 185)
   (.region [
     ⟨(some 186), none, .act, .mv (.tmp 0)⟩,
     ⟨(some 187), none, .act, .mv (.tmp 20)⟩,
     ⟨(some 188), none, .act, .mv (.tmp 2)⟩,
     ⟨(some 189), none, .act, .mv (.tmp 24)⟩,
     ⟨(some 190), none, .act, .mv (.tmp 4)⟩,
     ⟨(some 191), none, .act, .call 85 [(.tmp 186), (.tmp 187), (.tmp 188), (.tmp 189), (.tmp 190)]⟩])
   .skip))
  (.seq (.seq (.region [
    ⟨(some 192), none, .act, .mv (.tmp 1)⟩,
    ⟨(some 193), none, .act, .mv (.tmp 20)⟩,
    ⟨(some 194), none, .act, .bin .lss (.tmp 192) (.tmp 193)⟩,
    ⟨(some 195), none, .act, .mv (.tmp 194)⟩,
    ⟨(some 196), (some (195, true)), .act, .mv (.tmp 20)⟩,
    ⟨(some 197), (some (195, true)), .act, .mv (.tmp 18)⟩,
    ⟨(some 198), (some (195, true)), .act, .bin .lss (.tmp 196) (.tmp 197)⟩,
    ⟨(some 199), none, .act, .pick (.tmp 195) (.tmp 198) (.const (.bool false))⟩])
  (.cond (.tmp 199)
   (.region [
     ⟨(some 200), none, .act, .mv (.tmp 0)⟩,
     ⟨(some 201), none, .act, .mv (.tmp 1)⟩,
     ⟨(some 202), none, .act, .mv (.tmp 20)⟩,
     ⟨(some 203), none, .act, .mv (.tmp 18)⟩,
     ⟨(some 204), none, .act, .mv (.tmp 4)⟩,
     ⟨(some 205), none, .act, .call 72 [(.tmp 200), (.tmp 201), (.tmp 202), (.tmp 203), (.tmp 204)]⟩])
   .skip))
  (.seq (.region [
    ⟨(some 206), none, .act, .mv (.tmp 18)⟩,
    ⟨(some 207), none, .act, .mv (.tmp 24)⟩,
    ⟨(some 208), none, .act, .bin .lss (.tmp 206) (.tmp 207)⟩,
    ⟨(some 209), none, .act, .mv (.tmp 208)⟩,
    ⟨(some 210), (some (209, true)), .act, .mv (.tmp 24)⟩,
    ⟨(some 211), (some (209, true)), .act, .mv (.tmp 3)⟩,
    ⟨(some 212), (some (209, true)), .act, .bin .lss (.tmp 210) (.tmp 211)⟩,
    ⟨(some 213), none, .act, .pick (.tmp 209) (.tmp 212) (.const (.bool false))⟩])
  (.cond (.tmp 213)
   (.region [
     ⟨(some 214), none, .act, .mv (.tmp 0)⟩,
     ⟨(some 215), none, .act, .mv (.tmp 18)⟩,
     ⟨(some 216), none, .act, .mv (.tmp 24)⟩,
     ⟨(some 217), none, .act, .mv (.tmp 3)⟩,
     ⟨(some 218), none, .act, .mv (.tmp 4)⟩,
     ⟨(some 219), none, .act, .call 72 [(.tmp 214), (.tmp 215), (.tmp 216), (.tmp 217), (.tmp 218)]⟩])
   .skip)))))))))))))
theorem res72 : ∃ c, Try.f72.body = some c ∧ resCode Try.prog 220 c = some r72 := ⟨_, rfl, by kernel_rfl⟩
theorem rr72 : resRes Try.prog Try.f72.results.toList = some [] := by kernel_rfl
theorem sy_find0 {h : AHeap} {q : Nat} (B : Box h q) (n cap a m b : Nat) (d : List Run) (sp : List AV) (hn : n ≤ 1000000) (hd : d.length = n) (ha : a < n) (hb : b ≤ n) (hf : St.Falls (fun k => ltT (St.gd d k) (St.gd d a)) m b) (ks : List RT) (Q : AV → AHeap → Prop)
    (H : ∀ r, St.Found (fun k => ltT (St.gd d k) (St.gd d a)) m b r → RRun Try.prog Try.f72 220 ks (Env.get [(0, slAt q 0 n cap), (1, i64 a), (10, i64 r)]) (HR h q d sp) Q) : ∀ (fu i j : Nat), j - i ≤ fu → m ≤ i → i ≤ j → j ≤ b → (∀ k, m ≤ k → k < i → ltT (St.gd d k) (St.gd d a) = true) → (∀ k, j ≤ k → k < b → ltT (St.gd d k) (St.gd d a) = false) →
    RRun Try.prog Try.f72 220 (.inLoop r72l0 :: .inBlock 0 :: ks) (Env.get [(0, slAt q 0 n cap), (1, i64 a), (4, cmpA), (10, i64 i), (11, i64 j)]) (HR h q d sp) Q := by
  have fin : ∀ i, m ≤ i → i ≤ b → (∀ k, m ≤ k → k < i → ltT (St.gd d k) (St.gd d a) = true) → (∀ k, i ≤ k → k < b → ltT (St.gd d k) (St.gd d a) = false) →
      RRun Try.prog Try.f72 220 (.inLoop r72l0 :: .inBlock 0 :: ks) (Env.get [(0, slAt q 0 n cap), (1, i64 a), (4, cmpA), (10, i64 i), (11, i64 i)]) (HR h q d sp) Q := by
    intro i h1 h2 h3 h4
    refine RRun.inLoop ?_
    repeat' (first | refine S.nilK ?_ | (refine S.op rfl ?_; first | refine R.mv rfl ?_ | ((first | refine S.lss rfl rfl ?_ ?_) <;> intro hlt <;> try (exfalso; omega))) | refine S.seq ?_ | refine S.region ?_ | refine S.condF rfl ?_ | refine RRun.exit rfl ?_)
    exact S.keep [0, 1, 10] rfl (H i ⟨h1, h2, h3, h4⟩)
  intro fu
  induction fu with
  | zero =>
    intro i j hfu h1 h2 h3 hy hno
    have : j = i := by omega
    subst this
    exact fin j h1 h3 hy hno
  | succ fu ih =>
    intro i j hfu h1 h2 h3 hy hno
    rcases Nat.lt_or_eq_of_le h2 with hij | rfl
    · have c29 := B.cmp (St.gd d ((i + j) / 2)) (St.gd d a) d sp
      have hX := St.gd_some (d := d) (k := (i + j) / 2) (by omega)
      have hY := St.gd_some (d := d) (k := a) (by omega)
      have hsm := cmpT_sm (St.gd d ((i + j) / 2)) (St.gd d a)
      have hcm : ltT (St.gd d ((i + j) / 2)) (St.gd d a) = decide (cmpT (St.gd d ((i + j) / 2)) (St.gd d a) < 0) := rfl
      have i1 := ih ((i + j) / 2 + 1) j (by omega) (by omega) (by omega) h3
      have i2 := ih i ((i + j) / 2) (by omega) h1 (by omega) (by omega) hy
      have u1 := hf.up (k := (i + j) / 2) (by omega)
      have u2 := hf.down (k := (i + j) / 2) (by omega)
      generalize cmpT (St.gd d ((i + j) / 2)) (St.gd d a) = o at c29 hsm hcm
      refine RRun.inLoop ?_
      rcases hsm with rfl | rfl | rfl
      · repeat' (first | refine S.nilK ?_ | (refine S.op rfl ?_; first | refine S.addNN (n := 1) rfl rfl (by omega) ?_ | refine S.addNN rfl rfl (by omega) ?_ | refine S.ixN rfl rfl (by omega) ?_ | refine S.convU (by omega) rfl ?_ | refine S.half rfl ?_ | refine S.convI (by omega) rfl ?_ | refine ldR (by decide) rfl hX ?_ | refine ldR (by decide) rfl hY ?_ | refine R.callAQ (by decide) rfl hp46 rfl c29 ?_ | refine R.mv rfl ?_ | ((first | refine S.lss rfl rfl ?_ ?_) <;> intro hlt <;> try (exfalso; omega))) | refine S.seq ?_ | refine S.region ?_ | refine S.condT rfl ?_ | refine RRun.skip ?_ | refine RRun.block ?_ | refine RRun.inBlock ?_)
        exact S.keep [0, 1, 4, 10, 11] rfl (i1 (u1 (by rw [hcm]; decide)) hno)
      · repeat' (first | refine S.nilK ?_ | (refine S.op rfl ?_; first | refine S.addNN rfl rfl (by omega) ?_ | refine S.ixN rfl rfl (by omega) ?_ | refine S.convU (by omega) rfl ?_ | refine S.half rfl ?_ | refine S.convI (by omega) rfl ?_ | refine ldR (by decide) rfl hX ?_ | refine ldR (by decide) rfl hY ?_ | refine R.callAQ (by decide) rfl hp46 rfl c29 ?_ | refine R.mv rfl ?_ | ((first | refine S.lss rfl rfl ?_ ?_) <;> intro hlt <;> try (exfalso; omega))) | refine S.seq ?_ | refine S.region ?_ | refine S.condT rfl ?_ | refine S.condF rfl ?_ | refine RRun.skip ?_ | refine RRun.block ?_ | refine RRun.inBlock ?_)
        exact S.keep [0, 1, 4, 10, 11] rfl (i2 (u2 (by rw [hcm]; decide)))
      · repeat' (first | refine S.nilK ?_ | (refine S.op rfl ?_; first | refine S.addNN rfl rfl (by omega) ?_ | refine S.ixN rfl rfl (by omega) ?_ | refine S.convU (by omega) rfl ?_ | refine S.half rfl ?_ | refine S.convI (by omega) rfl ?_ | refine ldR (by decide) rfl hX ?_ | refine ldR (by decide) rfl hY ?_ | refine R.callAQ (by decide) rfl hp46 rfl c29 ?_ | refine R.mv rfl ?_ | ((first | refine S.lss rfl rfl ?_ ?_) <;> intro hlt <;> try (exfalso; omega))) | refine S.seq ?_ | refine S.region ?_ | refine S.condT rfl ?_ | refine S.condF rfl ?_ | refine RRun.skip ?_ | refine RRun.block ?_ | refine RRun.inBlock ?_)
        exact S.keep [0, 1, 4, 10, 11] rfl (i2 (u2 (by rw [hcm]; decide)))
    · exact fin i h1 h3 hy hno
theorem sy_find2 {h : AHeap} {q : Nat} (B : Box h q) (n cap a m : Nat) (d : List Run) (sp : List AV) (hn : n ≤ 1000000) (hd : d.length = n) (hm : m < n) (hf : St.Falls (fun k => !ltT (St.gd d m) (St.gd d k)) a m) (ks : List RT) (Q : AV → AHeap → Prop)
    (H : ∀ r, St.Found (fun k => !ltT (St.gd d m) (St.gd d k)) a m r → RRun Try.prog Try.f72 220 ks (Env.get [(0, slAt q 0 n cap), (2, i64 m), (14, i64 r)]) (HR h q d sp) Q) : ∀ (fu i j : Nat), j - i ≤ fu → a ≤ i → i ≤ j → j ≤ m → (∀ k, a ≤ k → k < i → (!ltT (St.gd d m) (St.gd d k)) = true) → (∀ k, j ≤ k → k < m → (!ltT (St.gd d m) (St.gd d k)) = false) →
    RRun Try.prog Try.f72 220 (.inLoop r72l2 :: .inBlock 4 :: ks) (Env.get [(0, slAt q 0 n cap), (2, i64 m), (4, cmpA), (14, i64 i), (15, i64 j)]) (HR h q d sp) Q := by
  have fin : ∀ i, a ≤ i → i ≤ m → (∀ k, a ≤ k → k < i → (!ltT (St.gd d m) (St.gd d k)) = true) → (∀ k, i ≤ k → k < m → (!ltT (St.gd d m) (St.gd d k)) = false) →
      RRun Try.prog Try.f72 220 (.inLoop r72l2 :: .inBlock 4 :: ks) (Env.get [(0, slAt q 0 n cap), (2, i64 m), (4, cmpA), (14, i64 i), (15, i64 i)]) (HR h q d sp) Q := by
    intro i h1 h2 h3 h4
    refine RRun.inLoop ?_
    repeat' (first | refine S.nilK ?_ | (refine S.op rfl ?_; first | refine R.mv rfl ?_ | ((first | refine S.lss rfl rfl ?_ ?_) <;> intro hlt <;> try (exfalso; omega))) | refine S.seq ?_ | refine S.region ?_ | refine S.condF rfl ?_ | refine RRun.exit rfl ?_)
    exact S.keep [0, 2, 14] rfl (H i ⟨h1, h2, h3, h4⟩)
  intro fu
  induction fu with
  | zero =>
    intro i j hfu h1 h2 h3 hy hno
    have : j = i := by omega
    subst this
    exact fin j h1 h3 hy hno
  | succ fu ih =>
    intro i j hfu h1 h2 h3 hy hno
    rcases Nat.lt_or_eq_of_le h2 with hij | rfl
    · have c29 := B.cmp (St.gd d m) (St.gd d ((i + j) / 2)) d sp
      have hX := St.gd_some (d := d) (k := (i + j) / 2) (by omega)
      have hY := St.gd_some (d := d) (k := m) (by omega)
      have hsm := cmpT_sm (St.gd d m) (St.gd d ((i + j) / 2))
      have hcm : ltT (St.gd d m) (St.gd d ((i + j) / 2)) = decide (cmpT (St.gd d m) (St.gd d ((i + j) / 2)) < 0) := rfl
      have i1 := ih ((i + j) / 2 + 1) j (by omega) (by omega) (by omega) h3
      have i2 := ih i ((i + j) / 2) (by omega) h1 (by omega) (by omega) hy
      have u1 := hf.up (k := (i + j) / 2) (by omega)
      have u2 := hf.down (k := (i + j) / 2) (by omega)
      generalize cmpT (St.gd d m) (St.gd d ((i + j) / 2)) = o at c29 hsm hcm
      refine RRun.inLoop ?_
      rcases hsm with rfl | rfl | rfl
      · repeat' (first | refine S.nilK ?_ | (refine S.op rfl ?_; first | refine S.addNN rfl rfl (by omega) ?_ | refine S.ixN rfl rfl (by omega) ?_ | refine S.convU (by omega) rfl ?_ | refine S.half rfl ?_ | refine S.convI (by omega) rfl ?_ | refine ldR (by decide) rfl hX ?_ | refine ldR (by decide) rfl hY ?_ | refine R.callAQ (by decide) rfl hp46 rfl c29 ?_ | refine R.mv rfl ?_ | refine R.not rfl ?_ | ((first | refine S.lss rfl rfl ?_ ?_) <;> intro hlt <;> try (exfalso; omega))) | refine S.seq ?_ | refine S.region ?_ | refine S.condT rfl ?_ | refine S.condF rfl ?_ | refine RRun.skip ?_ | refine RRun.block ?_ | refine RRun.inBlock ?_)
        exact S.keep [0, 2, 4, 14, 15] rfl (i2 (u2 (by rw [hcm]; decide)))
      · repeat' (first | refine S.nilK ?_ | (refine S.op rfl ?_; first | refine S.addNN (n := 1) rfl rfl (by omega) ?_ | refine S.addNN rfl rfl (by omega) ?_ | refine S.ixN rfl rfl (by omega) ?_ | refine S.convU (by omega) rfl ?_ | refine S.half rfl ?_ | refine S.convI (by omega) rfl ?_ | refine ldR (by decide) rfl hX ?_ | refine ldR (by decide) rfl hY ?_ | refine R.callAQ (by decide) rfl hp46 rfl c29 ?_ | refine R.mv rfl ?_ | refine R.not rfl ?_ | ((first | refine S.lss rfl rfl ?_ ?_) <;> intro hlt <;> try (exfalso; omega))) | refine S.seq ?_ | refine S.region ?_ | refine S.condT rfl ?_ | refine RRun.skip ?_ | refine RRun.block ?_ | refine RRun.inBlock ?_)
        exact S.keep [0, 2, 4, 14, 15] rfl (i1 (u1 (by rw [hcm]; decide)) hno)
      · repeat' (first | refine S.nilK ?_ | (refine S.op rfl ?_; first | refine S.addNN (n := 1) rfl rfl (by omega) ?_ | refine S.addNN rfl rfl (by omega) ?_ | refine S.ixN rfl rfl (by omega) ?_ | refine S.convU (by omega) rfl ?_ | refine S.half rfl ?_ | refine S.convI (by omega) rfl ?_ | refine ldR (by decide) rfl hX ?_ | refine ldR (by decide) rfl hY ?_ | refine R.callAQ (by decide) rfl hp46 rfl c29 ?_ | refine R.mv rfl ?_ | refine R.not rfl ?_ | ((first | refine S.lss rfl rfl ?_ ?_) <;> intro hlt <;> try (exfalso; omega))) | refine S.seq ?_ | refine S.region ?_ | refine S.condT rfl ?_ | refine RRun.skip ?_ | refine RRun.block ?_ | refine RRun.inBlock ?_)
        exact S.keep [0, 2, 4, 14, 15] rfl (i1 (u1 (by rw [hcm]; decide)) hno)
    · exact fin i h1 h3 hy hno
theorem sy_find4 {h : AHeap} {q : Nat} (B : Box h q) (n cap a m b mid N p lo hi : Nat) (d : List Run) (sp : List AV) (hn : n ≤ 1000000) (hd : d.length = n) (hp1 : hi ≤ p + 1) (hp2 : p < lo + n) (hhi : hi ≤ n) (hf : St.Falls (fun k => !ltT (St.gd d (p - k)) (St.gd d k)) lo hi) (ks : List RT) (Q : AV → AHeap → Prop)
    (H : ∀ r, St.Found (fun k => !ltT (St.gd d (p - k)) (St.gd d k)) lo hi r → RRun Try.prog Try.f72 220 ks (Env.get [(0, slAt q 0 n cap), (1, i64 a), (2, i64 m), (3, i64 b), (4, cmpA), (18, i64 mid), (19, i64 N), (20, i64 r)]) (HR h q d sp) Q) : ∀ (fu i j : Nat), j - i ≤ fu → lo ≤ i → i ≤ j → j ≤ hi → (∀ k, lo ≤ k → k < i → (!ltT (St.gd d (p - k)) (St.gd d k)) = true) → (∀ k, j ≤ k → k < hi → (!ltT (St.gd d (p - k)) (St.gd d k)) = false) →
    RRun Try.prog Try.f72 220 (.inLoop r72l4 :: .inBlock 8 :: ks) (Env.get [(0, slAt q 0 n cap), (1, i64 a), (2, i64 m), (3, i64 b), (4, cmpA), (18, i64 mid), (19, i64 N), (20, i64 i), (21, i64 j), (22, i64 p)]) (HR h q d sp) Q := by
  have fin : ∀ i, lo ≤ i → i ≤ hi → (∀ k, lo ≤ k → k < i → (!ltT (St.gd d (p - k)) (St.gd d k)) = true) → (∀ k, i ≤ k → k < hi → (!ltT (St.gd d (p - k)) (St.gd d k)) = false) →
      RRun Try.prog Try.f72 220 (.inLoop r72l4 :: .inBlock 8 :: ks) (Env.get [(0, slAt q 0 n cap), (1, i64 a), (2, i64 m), (3, i64 b), (4, cmpA), (18, i64 mid), (19, i64 N), (20, i64 i), (21, i64 i), (22, i64 p)]) (HR h q d sp) Q := by
    intro i h1 h2 h3 h4
    refine RRun.inLoop ?_
    repeat' (first | refine S.nilK ?_ | (refine S.op rfl ?_; first | refine R.mv rfl ?_ | ((first | refine S.lss rfl rfl ?_ ?_) <;> intro hlt <;> try (exfalso; omega))) | refine S.seq ?_ | refine S.region ?_ | refine S.condF rfl ?_ | refine RRun.exit rfl ?_)
    exact S.keep [0, 1, 2, 3, 4, 18, 19, 20] rfl (H i ⟨h1, h2, h3, h4⟩)
  intro fu
  induction fu with
  | zero =>
    intro i j hfu h1 h2 h3 hy hno
    have : j = i := by omega
    subst this
    exact fin j h1 h3 hy hno
  | succ fu ih =>
    intro i j hfu h1 h2 h3 hy hno
    rcases Nat.lt_or_eq_of_le h2 with hij | rfl
    · have c29 := B.cmp (St.gd d (p - (i + j) / 2)) (St.gd d ((i + j) / 2)) d sp
      have hX := St.gd_some (d := d) (k := p - (i + j) / 2) (by omega)
      have hY := St.gd_some (d := d) (k := (i + j) / 2) (by omega)
      have hsm := cmpT_sm (St.gd d (p - (i + j) / 2)) (St.gd d ((i + j) / 2))
      have hcm : ltT (St.gd d (p - (i + j) / 2)) (St.gd d ((i + j) / 2)) = decide (cmpT (St.gd d (p - (i + j) / 2)) (St.gd d ((i + j) / 2)) < 0) := rfl
      have i1 := ih ((i + j) / 2 + 1) j (by omega) (by omega) (by omega) h3
      have i2 := ih i ((i + j) / 2) (by omega) h1 (by omega) (by omega) hy
      have u1 := hf.up (k := (i + j) / 2) (by omega)
      have u2 := hf.down (k := (i + j) / 2) (by omega)
      generalize cmpT (St.gd d (p - (i + j) / 2)) (St.gd d ((i + j) / 2)) = o at c29 hsm hcm
      refine RRun.inLoop ?_
      rcases hsm with rfl | rfl | rfl
      · repeat' (first | refine S.nilK ?_ | (refine S.op rfl ?_; first | refine S.addNN rfl rfl (by omega) ?_ | refine S.subNN rfl rfl (by omega) (by omega) ?_ | refine S.ixN rfl rfl (by omega) ?_ | refine S.convU (by omega) rfl ?_ | refine S.half rfl ?_ | refine S.convI (by omega) rfl ?_ | refine ldR (by decide) rfl hX ?_ | refine ldR (by decide) rfl hY ?_ | refine R.callAQ (by decide) rfl hp46 rfl c29 ?_ | refine R.mv rfl ?_ | refine R.not rfl ?_ | ((first | refine S.lss rfl rfl ?_ ?_) <;> intro hlt <;> try (exfalso; omega))) | refine S.seq ?_ | refine S.region ?_ | refine S.condT rfl ?_ | refine S.condF rfl ?_ | refine RRun.skip ?_ | refine RRun.block ?_ | refine RRun.inBlock ?_)
        exact S.keep [0, 1, 2, 3, 4, 18, 19, 20, 21, 22] rfl (i2 (u2 (by rw [hcm]; decide)))
      · repeat' (first | refine S.nilK ?_ | (refine S.op rfl ?_; first | refine S.addNN (n := 1) rfl rfl (by omega) ?_ | refine S.addNN rfl rfl (by omega) ?_ | refine S.subNN rfl rfl (by omega) (by omega) ?_ | refine S.ixN rfl rfl (by omega) ?_ | refine S.convU (by omega) rfl ?_ | refine S.half rfl ?_ | refine S.convI (by omega) rfl ?_ | refine ldR (by decide) rfl hX ?_ | refine ldR (by decide) rfl hY ?_ | refine R.callAQ (by decide) rfl hp46 rfl c29 ?_ | refine R.mv rfl ?_ | refine R.not rfl ?_ | ((first | refine S.lss rfl rfl ?_ ?_) <;> intro hlt <;> try (exfalso; omega))) | refine S.seq ?_ | refine S.region ?_ | refine S.condT rfl ?_ | refine RRun.skip ?_ | refine RRun.block ?_ | refine RRun.inBlock ?_)
        exact S.keep [0, 1, 2, 3, 4, 18, 19, 20, 21, 22] rfl (i1 (u1 (by rw [hcm]; decide)) hno)
      · repeat' (first | refine S.nilK ?_ | (refine S.op rfl ?_; first | refine S.addNN (n := 1) rfl rfl (by omega) ?_ | refine S.addNN rfl rfl (by omega) ?_ | refine S.subNN rfl rfl (by omega) (by omega) ?_ | refine S.ixN rfl rfl (by omega) ?_ | refine S.convU (by omega) rfl ?_ | refine S.half rfl ?_ | refine S.convI (by omega) rfl ?_ | refine ldR (by decide) rfl hX ?_ | refine ldR (by decide) rfl hY ?_ | refine R.callAQ (by decide) rfl hp46 rfl c29 ?_ | refine R.mv rfl ?_ | refine R.not rfl ?_ | ((first | refine S.lss rfl rfl ?_ ?_) <;> intro hlt <;> try (exfalso; omega))) | refine S.seq ?_ | refine S.region ?_ | refine S.condT rfl ?_ | refine RRun.skip ?_ | refine RRun.block ?_ | refine RRun.inBlock ?_)
        exact S.keep [0, 1, 2, 3, 4, 18, 19, 20, 21, 22] rfl (i1 (u1 (by rw [hcm]; decide)) hno)
    · exact fin i h1 h3 hy hno
theorem sy_up (n cap i : Nat) (x : Run) (Y : List Run) (sp : List AV) (h : AHeap) {q : Nat} (hn : n ≤ 1000000) (ks : List RT) (Q : AV → AHeap → Prop) : ∀ (U W : List Run) (k : Nat), k = W.length → i = k + U.length + 1 → W.length + U.length + Y.length + 1 = n →
    RRun Try.prog Try.f72 220 ks (Env.get []) (HR h q (W ++ U ++ x :: Y) sp) Q →
    RRun Try.prog Try.f72 220 (.inLoop r72l1 :: .inBlock 2 :: ks) (Env.get [(0, slAt q 0 n cap), (10, i64 i), (13, i64 k)]) (HR h q (W ++ x :: U ++ Y) sp) Q
  | [], W, k, hk, hi, hlen, H => by
    simp only [List.length_nil] at hi
    rw [List.append_nil] at H
    have e : W ++ [x] ++ Y = W ++ x :: Y := by simp
    rw [e]
    refine RRun.inLoop ?_
    repeat' (first | refine S.nilK ?_ | (refine S.op rfl ?_; first | refine S.subNN (n := 1) rfl rfl (by omega) (by omega) ?_ | refine R.mv rfl ?_ | ((first | refine S.lss rfl rfl ?_ ?_) <;> intro hlt <;> try (exfalso; omega))) | refine S.seq ?_ | refine S.region ?_ | refine S.condF rfl ?_ | refine RRun.exit rfl ?_)
    exact S.keep [] rfl H
  | u :: U, W, k, hk, hi, hlen, H => by
    simp only [List.length_cons] at hi hlen
    have hX : (W ++ x :: u :: U ++ Y)[k + 1]? = some u := by
      have e : W ++ x :: u :: U ++ Y = (W ++ [x]) ++ u :: (U ++ Y) := by simp
      have e2 : k + 1 = (W ++ [x]).length := by simp [hk]
      rw [e, e2]; exact get_mid _ _ _
    have hY : (W ++ x :: u :: U ++ Y)[k]? = some x := by
      have e : W ++ x :: u :: U ++ Y = W ++ x :: (u :: U ++ Y) := by simp
      rw [e, hk]; exact get_mid _ _ _
    have e3 : ((W ++ x :: u :: U ++ Y).set k u).set (k + 1) x = (W ++ [u]) ++ x :: U ++ Y := by
      have e : W ++ x :: u :: U ++ Y = W ++ x :: (u :: U ++ Y) := by simp
      rw [e, hk, set_mid]
      have e : W ++ u :: (u :: U ++ Y) = (W ++ [u]) ++ u :: (U ++ Y) := by simp
      have e2 : W.length + 1 = (W ++ [u]).length := by simp
      rw [e, e2, set_mid]; simp
    have hih := sy_up n cap i x Y sp h hn ks Q U (W ++ [u]) (k + 1) (by simp [hk]) (by omega) (by simp; omega) (by
      have e : W ++ [u] ++ U ++ x :: Y = W ++ u :: U ++ x :: Y := by simp
      rw [e]; exact H)
    rw [← e3] at hih
    have hlen2 : (W ++ x :: u :: U ++ Y).length = n := by simp; omega
    generalize W ++ x :: u :: U ++ Y = d at *
    refine RRun.inLoop ?_
    repeat' (first | (refine S.op0 rfl (stR rfl rfl rfl (by (try simp only [List.length_set]); omega) ?_)) | refine S.nilK ?_ | (refine S.op rfl ?_; first | refine S.addNN (n := 1) rfl rfl (by omega) ?_ | refine S.subNN (n := 1) rfl rfl (by omega) (by omega) ?_ | refine S.ixN rfl rfl (by omega) ?_ | refine ldR (by decide) rfl hX ?_ | refine ldR (by decide) rfl hY ?_ | refine R.mv rfl ?_ | ((first | refine S.lss rfl rfl ?_ ?_) <;> intro hlt <;> try (exfalso; omega))) | refine S.seq ?_ | refine S.region ?_ | refine S.condT rfl ?_ | refine RRun.skip ?_ | refine RRun.block ?_ | refine RRun.inBlock ?_)
    exact S.keep [0, 10, 13] rfl hih
theorem sy_down (n cap i : Nat) (y : Run) (W : List Run) (sp : List AV) (h : AHeap) {q : Nat} (hn : n ≤ 1000000) (hi : i = W.length) (ks : List RT) (Q : AV → AHeap → Prop) : ∀ (t : Nat) (U Y : List Run) (k : Nat), U.length = t → k = i + t → W.length + U.length + Y.length + 1 = n →
    RRun Try.prog Try.f72 220 ks (Env.get []) (HR h q (W ++ y :: U ++ Y) sp) Q →
    RRun Try.prog Try.f72 220 (.inLoop r72l3 :: .inBlock 6 :: ks) (Env.get [(0, slAt q 0 n cap), (14, i64 i), (17, i64 k)]) (HR h q (W ++ U ++ y :: Y) sp) Q := by
  intro t
  induction t with
  | zero =>
    intro U Y k hU hk hlen H
    have h0 := List.eq_nil_of_length_eq_zero hU
    subst h0
    have e : W ++ [] ++ y :: Y = W ++ [y] ++ Y := by simp
    rw [e]
    refine RRun.inLoop ?_
    repeat' (first | refine S.nilK ?_ | (refine S.op rfl ?_; first | refine R.mv rfl ?_ | ((first | refine S.gtr rfl rfl ?_ ?_) <;> intro hlt <;> try (exfalso; omega))) | refine S.seq ?_ | refine S.region ?_ | refine S.condF rfl ?_ | refine RRun.exit rfl ?_)
    exact S.keep [] rfl H
  | succ t ih =>
    intro U Y k hU hk hlen H
    rcases List.eq_nil_or_concat U with h0 | ⟨U, u, rfl⟩
    · rw [h0] at hU; simp at hU
    · rw [List.concat_eq_append] at *
      have hU' : U.length = t := by simpa using hU
      simp only [List.length_append, List.length_singleton] at hlen
      have hX : (W ++ (U ++ [u]) ++ y :: Y)[k]? = some y := by
        have e2 : k = (W ++ (U ++ [u])).length := by simp; omega
        rw [e2]; exact get_mid _ _ _
      have hY : (W ++ (U ++ [u]) ++ y :: Y)[k - 1]? = some u := by
        have e : W ++ (U ++ [u]) ++ y :: Y = (W ++ U) ++ u :: (y :: Y) := by simp
        have e2 : k - 1 = (W ++ U).length := by simp; omega
        rw [e, e2]; exact get_mid _ _ _
      have e3 : ((W ++ (U ++ [u]) ++ y :: Y).set k u).set (k - 1) y = W ++ U ++ y :: u :: Y := by
        have e2 : k = (W ++ (U ++ [u])).length := by simp; omega
        have e2' : k - 1 = (W ++ U).length := by simp; omega
        rw [e2', e2, set_mid]
        have e : W ++ (U ++ [u]) ++ u :: Y = (W ++ U) ++ u :: (u :: Y) := by simp
        rw [e, set_mid]
      have hih := ih U (u :: Y) (k - 1) hU' (by omega) (by simp; omega) (by
        have e : W ++ y :: U ++ u :: Y = W ++ y :: (U ++ [u]) ++ Y := by simp
        rw [e]; exact H)
      rw [← e3] at hih
      have hlen2 : (W ++ (U ++ [u]) ++ y :: Y).length = n := by simp; omega
      generalize W ++ (U ++ [u]) ++ y :: Y = d at *
      refine RRun.inLoop ?_
      repeat' (first | (refine S.op0 rfl (stR rfl rfl rfl (by (try simp only [List.length_set]); omega) ?_)) | refine S.nilK ?_ | (refine S.op rfl ?_; first | refine S.subNN (n := 1) rfl rfl (by omega) (by omega) ?_ | refine S.ixN rfl rfl (by omega) ?_ | refine ldR (by decide) rfl hX ?_ | refine ldR (by decide) rfl hY ?_ | refine R.mv rfl ?_ | ((first | refine S.gtr rfl rfl ?_ ?_) <;> intro hlt <;> try (exfalso; omega))) | refine S.seq ?_ | refine S.region ?_ | refine S.condT rfl ?_ | refine RRun.skip ?_ | refine RRun.block ?_ | refine RRun.inBlock ?_)
      exact S.keep [0, 14, 17] rfl hih
end Go.Proofs.Ythfolomknkobkaa

namespace Go.Proofs.Ythfolomknkobkaa
open Go.Av
open Go.Ad (Run cmpT ltT cmpT_sm ltT_sw)
def r72e : RCode :=
  (.seq (.region [
    ⟨(some 175), none, .act, .mv (.tmp 19)⟩,
    ⟨(some 176), none, .act, .mv (.tmp 20)⟩,
    ⟨(some 177), none, .act, .bin .sub (.tmp 175) (.tmp 176)⟩,
    ⟨(some 24), none, .act, .mv (.tmp 177)⟩])
  (.seq (.seq (.region [
    ⟨(some 178), none, .act, .mv (.tmp 20)⟩,
    ⟨(some 179), none, .act, .mv (.tmp 2)⟩,
    ⟨(some 180), none, .act, .bin .lss (.tmp 178) (.tmp 179)⟩,
    ⟨(some 181), none, .act, .mv (.tmp 180)⟩,
    ⟨(some 182), (some (181, true)), .act, .mv (.tmp 2)⟩,
    ⟨(some 183), (some (181, true)), .act, .mv (.tmp 24)⟩,
    ⟨(some 184), (some (181, true)), .act, .bin .lss (.tmp 182) (.tmp 183)⟩,
    ⟨(some 185), none, .act, .pick (.tmp 181) (.tmp 184) (.const (.bool false))⟩])
  (.cond (.tmp 185)
   (.region [
     ⟨(some 186), none, .act, .mv (.tmp 0)⟩,
     ⟨(some 187), none, .act, .mv (.tmp 20)⟩,
     ⟨(some 188), none, .act, .mv (.tmp 2)⟩,
     ⟨(some 189), none, .act, .mv (.tmp 24)⟩,
     ⟨(some 190), none, .act, .mv (.tmp 4)⟩,
     ⟨(some 191), none, .act, .call 85 [(.tmp 186), (.tmp 187), (.tmp 188), (.tmp 189), (.tmp 190)]⟩])
   .skip))
  (.seq (.seq (.region [
    ⟨(some 192), none, .act, .mv (.tmp 1)⟩,
    ⟨(some 193), none, .act, .mv (.tmp 20)⟩,
    ⟨(some 194), none, .act, .bin .lss (.tmp 192) (.tmp 193)⟩,
    ⟨(some 195), none, .act, .mv (.tmp 194)⟩,
    ⟨(some 196), (some (195, true)), .act, .mv (.tmp 20)⟩,
    ⟨(some 197), (some (195, true)), .act, .mv (.tmp 18)⟩,
    ⟨(some 198), (some (195, true)), .act, .bin .lss (.tmp 196) (.tmp 197)⟩,
    ⟨(some 199), none, .act, .pick (.tmp 195) (.tmp 198) (.const (.bool false))⟩])
  (.cond (.tmp 199)
   (.region [
     ⟨(some 200), none, .act, .mv (.tmp 0)⟩,
     ⟨(some 201), none, .act, .mv (.tmp 1)⟩,
     ⟨(some 202), none, .act, .mv (.tmp 20)⟩,
     ⟨(some 203), none, .act, .mv (.tmp 18)⟩,
     ⟨(some 204), none, .act, .mv (.tmp 4)⟩,
     ⟨(some 205), none, .act, .call 72 [(.tmp 200), (.tmp 201), (.tmp 202), (.tmp 203), (.tmp 204)]⟩])
   .skip))
  (.seq (.region [
    ⟨(some 206), none, .act, .mv (.tmp 18)⟩,
    ⟨(some 207), none, .act, .mv (.tmp 24)⟩,
    ⟨(some 208), none, .act, .bin .lss (.tmp 206) (.tmp 207)⟩,
    ⟨(some 209), none, .act, .mv (.tmp 208)⟩,
    ⟨(some 210), (some (209, true)), .act, .mv (.tmp 24)⟩,
    ⟨(some 211), (some (209, true)), .act, .mv (.tmp 3)⟩,
    ⟨(some 212), (some (209, true)), .act, .bin .lss (.tmp 210) (.tmp 211)⟩,
    ⟨(some 213), none, .act, .pick (.tmp 209) (.tmp 212) (.const (.bool false))⟩])
  (.cond (.tmp 213)
   (.region [
     ⟨(some 214), none, .act, .mv (.tmp 0)⟩,
     ⟨(some 215), none, .act, .mv (.tmp 18)⟩,
     ⟨(some 216), none, .act, .mv (.tmp 24)⟩,
     ⟨(some 217), none, .act, .mv (.tmp 3)⟩,
     ⟨(some 218), none, .act, .mv (.tmp 4)⟩,
     ⟨(some 219), none, .act, .call 72 [(.tmp 214), (.tmp 215), (.tmp 216), (.tmp 217), (.tmp 218)]⟩])
   .skip)))))
def r72f : RCode :=
  (.seq (.region [
    ⟨(some 192), none, .act, .mv (.tmp 1)⟩,
    ⟨(some 193), none, .act, .mv (.tmp 20)⟩,
    ⟨(some 194), none, .act, .bin .lss (.tmp 192) (.tmp 193)⟩,
    ⟨(some 195), none, .act, .mv (.tmp 194)⟩,
    ⟨(some 196), (some (195, true)), .act, .mv (.tmp 20)⟩,
    ⟨(some 197), (some (195, true)), .act, .mv (.tmp 18)⟩,
    ⟨(some 198), (some (195, true)), .act, .bin .lss (.tmp 196) (.tmp 197)⟩,
    ⟨(some 199), none, .act, .pick (.tmp 195) (.tmp 198) (.const (.bool false))⟩])
  (.cond (.tmp 199)
   (.region [
     ⟨(some 200), none, .act, .mv (.tmp 0)⟩,
     ⟨(some 201), none, .act, .mv (.tmp 1)⟩,
     ⟨(some 202), none, .act, .mv (.tmp 20)⟩,
     ⟨(some 203), none, .act, .mv (.tmp 18)⟩,
     ⟨(some 204), none, .act, .mv (.tmp 4)⟩,
     ⟨(some 205), none, .act, .call 72 [(.tmp 200), (.tmp 201), (.tmp 202), (.tmp 203), (.tmp 204)]⟩])
   .skip))
def r72g : RCode :=
  (.seq (.region [
    ⟨(some 206), none, .act, .mv (.tmp 18)⟩,
    ⟨(some 207), none, .act, .mv (.tmp 24)⟩,
    ⟨(some 208), none, .act, .bin .lss (.tmp 206) (.tmp 207)⟩,
    ⟨(some 209), none, .act, .mv (.tmp 208)⟩,
    ⟨(some 210), (some (209, true)), .act, .mv (.tmp 24)⟩,
    ⟨(some 211), (some (209, true)), .act, .mv (.tmp 3)⟩,
    ⟨(some 212), (some (209, true)), .act, .bin .lss (.tmp 210) (.tmp 211)⟩,
    ⟨(some 213), none, .act, .pick (.tmp 209) (.tmp 212) (.const (.bool false))⟩])
  (.cond (.tmp 213)
   (.region [
     ⟨(some 214), none, .act, .mv (.tmp 0)⟩,
     ⟨(some 215), none, .act, .mv (.tmp 18)⟩,
     ⟨(some 216), none, .act, .mv (.tmp 24)⟩,
     ⟨(some 217), none, .act, .mv (.tmp 3)⟩,
     ⟨(some 218), none, .act, .mv (.tmp 4)⟩,
     ⟨(some 219), none, .act, .call 72 [(.tmp 214), (.tmp 215), (.tmp 216), (.tmp 217), (.tmp 218)]⟩])
   .skip))
theorem sy_one {h : AHeap} {q : Nat} (B : Box h q) (n cap : Nat) (x : Run) (P Bs Z : List Run) (sp : List AV) (hn : n ≤ 1000000) (hB : St.Sorted ltT Bs) (a m b : Nat) (ha : a = P.length) (hm : m = a + 1) (hb : b = m + Bs.length) (hlen : P.length + 1 + Bs.length + Z.length = n) :
    ACalls Try.prog 72 [slAt q 0 n cap, i64 a, i64 m, i64 b, cmpA] (HR h q (P ++ [x] ++ Bs ++ Z) sp) (fun _ h' => h' = HR h q (P ++ St.merge ltT [x] Bs ++ Z) sp) := by
  obtain ⟨c', hc1, hc2⟩ := res72
  refine ACalls.enter Try.func72 hc1 Try.ntmps72 hc2 (Nat.le_of_ble_eq_true rfl) rfl ?_
  have hx : St.gd (P ++ [x] ++ Bs ++ Z) a = x := by
    have e : P ++ [x] ++ Bs ++ Z = P ++ x :: (Bs ++ Z) := by simp
    rw [e, ha]; exact St.gd_mid _ _ _
  have hfall := St.one_falls ltT_sw (L := P ++ [x]) (Z := Z) hB x
  have hml : (P ++ [x]).length = m := by simp; omega
  rw [hml, ← hb] at hfall
  have e1 : m - a = 1 := by omega
  repeat' (first | refine S.nilK ?_ | (refine S.op rfl ?_; first | refine S.subNN rfl rfl (by omega) (by omega) ?_ | refine R.mv rfl ?_ | ((first | refine S.eqInt rfl rfl ?_ ?_) <;> intro hlt <;> try (exfalso; omega))) | refine S.seq ?_ | refine S.region ?_ | refine S.condT rfl ?_ | refine RRun.block ?_)
  refine RRun.loopIn (S.keep [0, 1, 4, 10, 11] rfl (sy_find0 B n cap a m b (P ++ [x] ++ Bs ++ Z) sp hn (by simp; omega) (by omega) (by omega) (by rw [hx]; exact hfall) _ _ (fun r hr => ?_) (b - m) m b (Nat.le_refl _) (Nat.le_refl _) (by omega) (Nat.le_refl _) (fun k g1 g2 => by omega) (fun k g1 g2 => by omega)))
  rw [hx, hb, ← hml] at hr
  obtain ⟨B1, B2, rfl, l1, l2, p1, p2⟩ := St.Found.parts (p := fun z => ltT z x) hr
  have hr1 := hr.ge
  have hr2 := hr.le
  rw [hml] at l1 hr1
  simp only [List.length_append] at hlen hb
  have e2 : St.merge ltT [x] (B1 ++ B2) = B1 ++ x :: B2 := St.merge_one p1 p2
  have e3 : P ++ [x] ++ (B1 ++ B2) ++ Z = P ++ x :: B1 ++ (B2 ++ Z) := by simp
  have e4 : P ++ (B1 ++ x :: B2) ++ Z = P ++ B1 ++ x :: (B2 ++ Z) := by simp
  rw [e2, e3, e4]
  repeat' (first | refine S.nilK ?_ | (refine S.op rfl ?_; first | refine R.mv rfl ?_) | refine S.seq ?_ | refine S.region ?_ | refine RRun.block ?_)
  refine RRun.loopIn (S.keep [0, 10, 13] rfl (sy_up n cap r x (B2 ++ Z) sp h hn _ _ B1 P a ha (by omega) (by simp; omega) ?_))
  repeat' (fail)
  apply S.ret rr72
  case hx => repeat (first | exact ResAt.nil)
  rfl
theorem sy_more {h : AHeap} {q : Nat} (B : Box h q) (n cap : Nat) (y : Run) (P A Z : List Run) (sp : List AV) (hn : n ≤ 1000000) (hA : St.Sorted ltT A) (a m b : Nat) (ha : a = P.length) (hA2 : A.length ≠ 1) (hm : m = a + A.length) (hb : b = m + 1) (hlen : P.length + 1 + A.length + Z.length = n) :
    ACalls Try.prog 72 [slAt q 0 n cap, i64 a, i64 m, i64 b, cmpA] (HR h q (P ++ A ++ [y] ++ Z) sp) (fun _ h' => h' = HR h q (P ++ St.merge ltT A [y] ++ Z) sp) := by
  obtain ⟨c', hc1, hc2⟩ := res72
  refine ACalls.enter Try.func72 hc1 Try.ntmps72 hc2 (Nat.le_of_ble_eq_true rfl) rfl ?_
  have hy : St.gd (P ++ A ++ [y] ++ Z) m = y := by
    have e : P ++ A ++ [y] ++ Z = (P ++ A) ++ y :: Z := by simp
    have e2 : m = (P ++ A).length := by simp; omega
    rw [e, e2]; exact St.gd_mid _ _ _
  have hfall := St.more_falls ltT_sw (L := P) (Z := [y] ++ Z) hA y
  rw [← List.append_assoc, ← ha, ← hm] at hfall
  have e1 : m - a ≠ 1 := by omega
  have e1' : b - m = 1 := by omega
  repeat' (first | refine S.nilK ?_ | (refine S.op rfl ?_; first | refine S.subNN rfl rfl (by omega) (by omega) ?_ | refine R.mv rfl ?_ | ((first | refine S.eqInt rfl rfl ?_ ?_) <;> intro hlt <;> try (exfalso; omega))) | refine S.seq ?_ | refine S.region ?_ | refine S.condT rfl ?_ | refine S.condF rfl ?_ | refine RRun.skip ?_ | refine RRun.block ?_)
  refine RRun.loopIn (S.keep [0, 2, 4, 14, 15] rfl (sy_find2 B n cap a m (P ++ A ++ [y] ++ Z) sp hn (by simp; omega) (by omega) (by rw [hy]; exact hfall) _ _ (fun r hr => ?_) (m - a) a m (Nat.le_refl _) (Nat.le_refl _) (by omega) (Nat.le_refl _) (fun k g1 g2 => by omega) (fun k g1 g2 => by omega)))
  rw [hy, hm, ha, List.append_assoc (P ++ A)] at hr
  obtain ⟨A1, A2, rfl, l1, l2, p1, p2⟩ := St.Found.parts (p := fun z => !ltT y z) hr
  have hr1 := hr.ge
  have hr2 := hr.le
  simp only [List.length_append] at hlen hm l2
  have e2 : St.merge ltT (A1 ++ A2) [y] = A1 ++ y :: A2 := St.merge_more (fun z hz => by have := p1 z hz; simpa using this) (fun z hz => by have := p2 z hz; simpa using this)
  have e3 : P ++ (A1 ++ A2) ++ [y] ++ Z = P ++ A1 ++ A2 ++ y :: Z := by simp
  have e4 : P ++ (A1 ++ y :: A2) ++ Z = P ++ A1 ++ y :: A2 ++ Z := by simp
  rw [e2, e3, e4]
  repeat' (first | refine S.nilK ?_ | (refine S.op rfl ?_; first | refine R.mv rfl ?_) | refine S.seq ?_ | refine S.region ?_ | refine RRun.block ?_)
  refine RRun.loopIn (S.keep [0, 14, 17] rfl (sy_down n cap r y (P ++ A1) sp h hn (by simp; omega) _ _ A2.length A2 Z m rfl (by omega) (by simp; omega) ?_))
  repeat' (fail)
  apply S.ret rr72
  case hx => repeat (first | exact ResAt.nil)
  rfl
theorem sy_k3 {q n cap mid e b : Nat} (W A2 B2 Z : List Run) (sp : List AV) (h : AHeap) (hn : n ≤ 1000000) (hm : mid ≤ e) (he : e = mid + A2.length) (hb : b = e + B2.length) (hbn : b ≤ n)
    (c51 : A2 ≠ [] → B2 ≠ [] → ACalls Try.prog 72 [slAt q 0 n cap, i64 mid, i64 e, i64 b, cmpA] (HR h q (W ++ A2 ++ B2 ++ Z) sp) (fun _ h' => h' = HR h q (W ++ St.merge ltT A2 B2 ++ Z) sp)) :
    RRun Try.prog Try.f72 220 [.code r72g] (Env.get [(0, slAt q 0 n cap), (3, i64 b), (4, cmpA), (18, i64 mid), (24, i64 e)]) (HR h q (W ++ A2 ++ B2 ++ Z) sp) (fun _ h' => h' = HR h q (W ++ St.merge ltT A2 B2 ++ Z) sp) := by
  by_cases hA2 : A2 = []
  · subst hA2
    rw [St.merge_nil, List.append_nil]
    simp only [List.length_nil] at he
    have hlt : ¬ mid < e := by omega
    repeat' (first | refine S.nilK ?_ | (refine S.op rfl ?_; first | refine R.mv rfl ?_ | refine R.pickF rfl rfl ?_ | ((first | refine S.lss rfl rfl ?_ ?_) <;> intro hlt <;> try (exfalso; omega))) | refine S.skip rfl ?_ | refine S.seq ?_ | refine S.region ?_ | refine S.condF rfl ?_ | refine RRun.skip ?_)
    apply S.done rr72
    case hx => repeat (first | exact ResAt.nil)
    rfl
  by_cases hB2 : B2 = []
  · subst hB2
    rw [St.merge_nil', List.append_nil]
    simp only [List.length_nil] at hb
    have hA2l := List.length_pos_iff.2 hA2
    repeat' (first | refine S.nilK ?_ | (refine S.op rfl ?_; first | refine R.mv rfl ?_ | refine R.pickT rfl rfl ?_ | ((first | refine S.lss rfl rfl ?_ ?_) <;> intro hlt <;> try (exfalso; omega))) | refine S.seq ?_ | refine S.region ?_ | refine S.condF rfl ?_ | refine RRun.skip ?_)
    apply S.done rr72
    case hx => repeat (first | exact ResAt.nil)
    rfl
  · have hA2l := List.length_pos_iff.2 hA2
    have hB2l := List.length_pos_iff.2 hB2
    have c51 := c51 hA2 hB2
    repeat' (first | refine S.nilK ?_ | (refine S.op rfl ?_; first | refine callU rfl rfl c51 (fun _ => ?_) | refine R.mv rfl ?_ | refine R.pickT rfl rfl ?_ | ((first | refine S.lss rfl rfl ?_ ?_) <;> intro hlt <;> try (exfalso; omega))) | refine S.seq ?_ | refine S.region ?_ | refine S.condT rfl ?_)
    apply S.done rr72
    case hx => repeat (first | exact ResAt.nil)
    rfl
theorem sy_k2 {q n cap a r mid e b : Nat} (P A1 B1 T : List Run) (sp : List AV) (h : AHeap) (hn : n ≤ 1000000) (hr : r = a + A1.length) (hb : mid = r + B1.length) (hbn : mid ≤ n) (Q : AV → AHeap → Prop)
    (c51 : A1 ≠ [] → B1 ≠ [] → ACalls Try.prog 72 [slAt q 0 n cap, i64 a, i64 r, i64 mid, cmpA] (HR h q (P ++ A1 ++ B1 ++ T) sp) (fun _ h' => h' = HR h q (P ++ St.merge ltT A1 B1 ++ T) sp))
    (k3 : RRun Try.prog Try.f72 220 [.code r72g] (Env.get [(0, slAt q 0 n cap), (3, i64 b), (4, cmpA), (18, i64 mid), (24, i64 e)]) (HR h q (P ++ St.merge ltT A1 B1 ++ T) sp) Q) :
    RRun Try.prog Try.f72 220 [.code r72f, .code r72g] (Env.get [(0, slAt q 0 n cap), (1, i64 a), (3, i64 b), (4, cmpA), (18, i64 mid), (20, i64 r), (24, i64 e)]) (HR h q (P ++ A1 ++ B1 ++ T) sp) Q := by
  by_cases hA1 : A1 = []
  · subst hA1
    rw [St.merge_nil] at k3
    rw [List.append_nil]
    simp only [List.length_nil] at hr
    repeat' (first | ((show RRun _ _ _ [.code r72g] _ _ _; exact S.keep [0, 3, 4, 18, 24] rfl k3)) | refine S.nilK ?_ | (refine S.op rfl ?_; first | refine R.mv rfl ?_ | refine R.pickF rfl rfl ?_ | ((first | refine S.lss rfl rfl ?_ ?_) <;> intro hlt <;> try (exfalso; omega))) | refine S.skip rfl ?_ | refine S.seq ?_ | refine S.region ?_ | refine S.condF rfl ?_ | refine RRun.skip ?_)
  by_cases hB1 : B1 = []
  · subst hB1
    rw [St.merge_nil'] at k3
    rw [List.append_nil]
    simp only [List.length_nil] at hb
    have hA1l := List.length_pos_iff.2 hA1
    repeat' (first | ((show RRun _ _ _ [.code r72g] _ _ _; exact S.keep [0, 3, 4, 18, 24] rfl k3)) | refine S.nilK ?_ | (refine S.op rfl ?_; first | refine R.mv rfl ?_ | refine R.pickT rfl rfl ?_ | ((first | refine S.lss rfl rfl ?_ ?_) <;> intro hlt <;> try (exfalso; omega))) | refine S.seq ?_ | refine S.region ?_ | refine S.condF rfl ?_ | refine RRun.skip ?_)
  · have hA1l := List.length_pos_iff.2 hA1
    have hB1l := List.length_pos_iff.2 hB1
    have c51 := c51 hA1 hB1
    repeat' (first | ((show RRun _ _ _ [.code r72g] _ _ _; exact S.keep [0, 3, 4, 18, 24] rfl k3)) | refine S.nilK ?_ | (refine S.op rfl ?_; first | refine callU rfl rfl c51 (fun _ => ?_) | refine R.mv rfl ?_ | refine R.pickT rfl rfl ?_ | ((first | refine S.lss rfl rfl ?_ ?_) <;> intro hlt <;> try (exfalso; omega))) | refine S.seq ?_ | refine S.region ?_ | refine S.condT rfl ?_)
theorem sy_k1 {q n cap a r m mid b : Nat} (P A1 A2 B1 T : List Run) (sp : List AV) (h : AHeap) (hn : n ≤ 1000000) (hP : a = P.length) (hr : r = a + A1.length) (hm : m = r + A2.length) (hb : mid = r + B1.length) (hlen : P.length + A1.length + A2.length + B1.length + T.length = n) (Q : AV → AHeap → Prop)
    (k2 : RRun Try.prog Try.f72 220 [.code r72f, .code r72g] (Env.get [(0, slAt q 0 n cap), (1, i64 a), (3, i64 b), (4, cmpA), (18, i64 mid), (20, i64 r), (24, i64 (mid + m - r : Nat))]) (HR h q (P ++ A1 ++ B1 ++ A2 ++ T) sp) Q) :
    RRun Try.prog Try.f72 220 [.code r72e] (Env.get [(0, slAt q 0 n cap), (1, i64 a), (2, i64 m), (3, i64 b), (4, cmpA), (18, i64 mid), (19, i64 (mid + m : Nat)), (20, i64 r)]) (HR h q (P ++ A1 ++ A2 ++ B1 ++ T) sp) Q := by
  by_cases hA2 : A2 = []
  · subst hA2
    rw [List.append_nil] at k2
    rw [List.append_nil]
    simp only [List.length_nil] at hm
    repeat' (first | ((show RRun _ _ _ [.code r72f, .code r72g] _ _ _; exact S.keep [0, 1, 3, 4, 18, 20, 24] rfl k2)) | refine S.nilK ?_ | (refine S.op rfl ?_; first | refine S.subNN rfl rfl (by omega) (by omega) ?_ | refine R.mv rfl ?_ | refine R.pickF rfl rfl ?_ | ((first | refine S.lss rfl rfl ?_ ?_) <;> intro hlt <;> try (exfalso; omega))) | refine S.skip rfl ?_ | refine S.seq ?_ | refine S.region ?_ | refine S.condF rfl ?_ | refine RRun.skip ?_)
  by_cases hB1 : B1 = []
  · subst hB1
    rw [List.append_nil] at k2
    rw [List.append_nil]
    simp only [List.length_nil] at hb
    have hA2l := List.length_pos_iff.2 hA2
    repeat' (first | ((show RRun _ _ _ [.code r72f, .code r72g] _ _ _; exact S.keep [0, 1, 3, 4, 18, 20, 24] rfl k2)) | refine S.nilK ?_ | (refine S.op rfl ?_; first | refine S.subNN rfl rfl (by omega) (by omega) ?_ | refine R.mv rfl ?_ | refine R.pickT rfl rfl ?_ | ((first | refine S.lss rfl rfl ?_ ?_) <;> intro hlt <;> try (exfalso; omega))) | refine S.seq ?_ | refine S.region ?_ | refine S.condF rfl ?_ | refine RRun.skip ?_)
  · have hA2l := List.length_pos_iff.2 hA2
    have hB1l := List.length_pos_iff.2 hB1
    have c61 := rotate_spec q n cap sp h hn (P ++ A1) A2 B1 T hA2 hB1 r m (mid + m - r) (by simp; omega) (by simp; omega) (by simp; omega) (by simp; omega) (cmpA)
    repeat' (first | ((show RRun _ _ _ [.code r72f, .code r72g] _ _ _; exact S.keep [0, 1, 3, 4, 18, 20, 24] rfl k2)) | refine S.nilK ?_ | (refine S.op rfl ?_; first | refine S.subNN rfl rfl (by omega) (by omega) ?_ | refine callU rfl rfl c61 (fun _ => ?_) | refine R.mv rfl ?_ | refine R.pickT rfl rfl ?_ | ((first | refine S.lss rfl rfl ?_ ?_) <;> intro hlt <;> try (exfalso; omega))) | refine S.seq ?_ | refine S.region ?_ | refine S.condT rfl ?_)
theorem sy_head {h : AHeap} {q : Nat} (B : Box h q) (n cap a m b mid : Nat) (d : List Run) (sp : List AV) (hn : n ≤ 1000000) (h1 : a + 1 < m) (h2 : m + 1 < b) (hbn : b ≤ n) (hd : d.length = n) (hmid : mid = (a + b) / 2) (Q : AV → AHeap → Prop)
    (hf : ∀ lo hi, ((m > mid ∧ lo = mid + m - b ∧ hi = mid) ∨ (m ≤ mid ∧ lo = a ∧ hi = m)) → St.Falls (fun k => !ltT (St.gd d (mid + m - 1 - k)) (St.gd d k)) lo hi)
    (H : ∀ r lo hi, ((m > mid ∧ lo = mid + m - b ∧ hi = mid) ∨ (m ≤ mid ∧ lo = a ∧ hi = m)) → St.Found (fun k => !ltT (St.gd d (mid + m - 1 - k)) (St.gd d k)) lo hi r →
        RRun Try.prog Try.f72 220 [.code r72e] (Env.get [(0, slAt q 0 n cap), (1, i64 a), (2, i64 m), (3, i64 b), (4, cmpA), (18, i64 mid), (19, i64 (mid + m : Nat)), (20, i64 r)]) (HR h q d sp) Q) :
    RRun Try.prog Try.f72 220 [.code r72] (Env.get [(0, slAt q 0 n cap), (1, i64 a), (2, i64 m), (3, i64 b), (4, cmpA)]) (HR h q d sp) Q := by
  have g1 : m - a ≠ 1 := by omega
  have g2 : b - m ≠ 1 := by omega
  rcases Nat.lt_or_ge mid m with hmm | hmm
  · have f4 := sy_find4 B n cap a m b mid (mid + m) (mid + m - 1) (mid + m - b) mid d sp hn hd (by omega) (by omega) (by omega) (hf _ _ (.inl ⟨hmm, rfl, rfl⟩)) [.code r72e] _ (fun r hr => H r _ _ (.inl ⟨hmm, rfl, rfl⟩) hr) mid (mid + m - b) mid (by omega) (Nat.le_refl _) (by omega) (Nat.le_refl _) (fun k g1 g2 => by omega) (fun k g1 g2 => by omega)
    subst hmid
    repeat' (first | ((show RRun _ _ _ (.code (.loop r72l4) :: _) _ _ _; refine RRun.loopIn ?_; exact S.keep [0, 1, 2, 3, 4, 18, 19, 20, 21, 22] rfl f4)) | refine S.nilK ?_ | (refine S.op rfl ?_; first | refine S.addNN rfl rfl (by omega) ?_ | refine S.subNN (n := 1) rfl rfl (by omega) (by omega) ?_ | refine S.subNN rfl rfl (by omega) (by omega) ?_ | refine S.convU (by omega) rfl ?_ | refine S.half rfl ?_ | refine S.convI (by omega) rfl ?_ | refine R.mv rfl ?_ | ((first | refine S.gtr rfl rfl ?_ ?_ | refine S.eqInt rfl rfl ?_ ?_) <;> intro hlt <;> try (exfalso; omega))) | refine S.seq ?_ | refine S.region ?_ | refine S.condT rfl ?_ | refine S.condF rfl ?_ | refine RRun.skip ?_ | refine RRun.block ?_)
  · have f4 := sy_find4 B n cap a m b mid (mid + m) (mid + m - 1) a m d sp hn hd (by omega) (by omega) (by omega) (hf _ _ (.inr ⟨hmm, rfl, rfl⟩)) [.code r72e] _ (fun r hr => H r _ _ (.inr ⟨hmm, rfl, rfl⟩) hr) m a m (by omega) (Nat.le_refl _) (by omega) (Nat.le_refl _) (fun k g1 g2 => by omega) (fun k g1 g2 => by omega)
    subst hmid
    repeat' (first | ((show RRun _ _ _ (.code (.loop r72l4) :: _) _ _ _; refine RRun.loopIn ?_; exact S.keep [0, 1, 2, 3, 4, 18, 19, 20, 21, 22] rfl f4)) | refine S.nilK ?_ | (refine S.op rfl ?_; first | refine S.addNN rfl rfl (by omega) ?_ | refine S.subNN (n := 1) rfl rfl (by omega) (by omega) ?_ | refine S.subNN rfl rfl (by omega) (by omega) ?_ | refine S.convU (by omega) rfl ?_ | refine S.half rfl ?_ | refine S.convI (by omega) rfl ?_ | refine R.mv rfl ?_ | ((first | refine S.gtr rfl rfl ?_ ?_ | refine S.eqInt rfl rfl ?_ ?_) <;> intro hlt <;> try (exfalso; omega))) | refine S.seq ?_ | refine S.region ?_ | refine S.condF rfl ?_ | refine RRun.skip ?_ | refine RRun.block ?_)
theorem sym_spec {h : AHeap} {q : Nat} (B : Box h q) (n cap : Nat) (sp : List AV) (hn : n ≤ 1000000) : ∀ (fu : Nat) (P A Bs Z : List Run), A.length + Bs.length ≤ fu → A ≠ [] → Bs ≠ [] → St.Sorted ltT A → St.Sorted ltT Bs → P.length + A.length + Bs.length + Z.length = n → ∀ (a m b : Nat), a = P.length → m = a + A.length → b = m + Bs.length →
    ACalls Try.prog 72 [slAt q 0 n cap, i64 a, i64 m, i64 b, cmpA] (HR h q (P ++ A ++ Bs ++ Z) sp) (fun _ h' => h' = HR h q (P ++ St.merge ltT A Bs ++ Z) sp) := by
  intro fu
  induction fu with
  | zero =>
    intro P A Bs Z hfu hA0
    exact absurd (List.eq_nil_of_length_eq_zero (by omega)) hA0
  | succ fu ih =>
    intro P A Bs Z hfu hA0 hB0 hA hB hlen a m b ha hm hb
    have hAl : 0 < A.length := List.length_pos_iff.2 hA0
    have hBl : 0 < Bs.length := List.length_pos_iff.2 hB0
    by_cases h1 : A.length = 1
    · obtain ⟨x, rfl⟩ := List.length_eq_one_iff.1 h1
      exact sy_one B n cap x P Bs Z sp hn hB a m b ha hm hb hlen
    by_cases h2 : Bs.length = 1
    · obtain ⟨y, rfl⟩ := List.length_eq_one_iff.1 h2
      exact sy_more B n cap y P A Z sp hn hA a m b ha h1 hm hb (by simp at hlen ⊢; omega)
    obtain ⟨c', hc1, hc2⟩ := res72
    refine ACalls.enter Try.func72 hc1 Try.ntmps72 hc2 (Nat.le_of_ble_eq_true rfl) rfl ?_
    obtain ⟨mid, hmid⟩ : ∃ mid, mid = (a + b) / 2 := ⟨_, rfl⟩
    refine sy_head B n cap a m b mid _ sp hn (by omega) (by omega) (by omega) (by simp; omega) hmid _ (fun lo hi hlo => St.sym_falls ltT_sw hA hB ha hm hb hmid hlo) (fun r lo hi hlo hr => ?_)
    obtain ⟨A1, A2, B1, B2, eA, eB, lA1, lA2, lB1, lB2, b1, b2, b3, b4, p1, p2⟩ := St.sym_parts ltT_sw (Z := Z) hA hB ha hm hb hmid hlo hr
    have sA1 : St.Sorted ltT A1 := by rw [eA] at hA; exact (List.pairwise_append.1 hA).1
    have sA2 : St.Sorted ltT A2 := by rw [eA] at hA; exact (List.pairwise_append.1 hA).2.1
    have sB1 : St.Sorted ltT B1 := by rw [eB] at hB; exact (List.pairwise_append.1 hB).1
    have sB2 : St.Sorted ltT B2 := by rw [eB] at hB; exact (List.pairwise_append.1 hB).2.1
    have em : St.merge ltT A Bs = St.merge ltT A1 B1 ++ St.merge ltT A2 B2 := by rw [eA, eB]; exact St.merge_split _ A1 A2 B1 B2 (Nat.le_refl _) p1 p2
    have ml1 := St.merge_length (lt := ltT) _ A1 B1 (Nat.le_refl _)
    have lA : A.length = A1.length + A2.length := by rw [eA]; simp
    have lB : Bs.length = B1.length + B2.length := by rw [eB]; simp
    have e0 : P ++ A ++ Bs ++ Z = P ++ A1 ++ A2 ++ B1 ++ (B2 ++ Z) := by rw [eA, eB]; simp
    have e1 : P ++ A1 ++ B1 ++ A2 ++ (B2 ++ Z) = P ++ A1 ++ B1 ++ (A2 ++ B2 ++ Z) := by simp
    have e2 : P ++ St.merge ltT A1 B1 ++ (A2 ++ B2 ++ Z) = P ++ St.merge ltT A1 B1 ++ A2 ++ B2 ++ Z := by simp
    have e3 : P ++ St.merge ltT A1 B1 ++ St.merge ltT A2 B2 ++ Z = P ++ St.merge ltT A Bs ++ Z := by rw [em]; simp
    rw [e0]
    refine sy_k1 P A1 A2 B1 (B2 ++ Z) sp h hn ha (by omega) (by omega) (by omega) (by simp; omega) _ ?_
    rw [e1]
    refine sy_k2 P A1 B1 (A2 ++ B2 ++ Z) sp h hn (by omega) (by omega) (by omega) _ (fun n1 n2 => ih P A1 B1 (A2 ++ B2 ++ Z) (by omega) n1 n2 sA1 sB1 (by simp; omega) a r mid ha (by omega) (by omega)) ?_
    rw [e2, ← e3]
    exact sy_k3 (P ++ St.merge ltT A1 B1) A2 B2 Z sp h hn (by omega) (by omega) (by omega) (by omega) (fun n1 n2 => ih (P ++ St.merge ltT A1 B1) A2 B2 Z (by omega) n1 n2 sA2 sB2 (by simp; omega) mid (mid + m - r) b (by simp; omega) (by omega) (by omega))
end Go.Proofs.Ythfolomknkobkaa

namespace Go.Av
section
variable {P : Program} {c : Cls} {E : AEnv} {h : AHeap} {K : AV → AHeap → Prop}
theorem S.addK (a b k : Int) {x y : Operand} (hx : aev E x = some (i64 a)) (hy : aev E y = some (i64 b)) (hb : -9223372036854775808 ≤ a + b ∧ a + b ≤ 9223372036854775807) (e : a + b = k) (hk : K (i64 k) h) : ROpS P c (.bin .add x y) E h K := S.addI hx hy hb (by rw [e]; exact hk)
theorem S.mulK (a b k : Int) {x y : Operand} (hx : aev E x = some (i64 a)) (hy : aev E y = some (i64 b)) (hb : -9223372036854775808 ≤ a * b ∧ a * b ≤ 9223372036854775807) (e : a * b = k) (hk : K (i64 k) h) : ROpS P c (.bin .mul x y) E h K := S.arith hx hy rfl (by rw [wrap_i64 hb.1 hb.2, e]; exact hk)
end
end Go.Av
namespace Go.Proofs.Ythfolomknkobkaa
open Go.Av
open Go.Ad (Run cmpT ltT cmpT_sm ltT_sw)
theorem insertion_nil (D F : AV) (a : Nat) (ha : a ≤ 1000000) (h : AHeap) : ACalls Try.prog 71 [D, i64 a, i64 a, F] h (fun _ h' => h' = h) := by
  obtain ⟨c', hc1, hc2⟩ := res71
  refine ACalls.enter Try.func71 hc1 Try.ntmps71 hc2 (Nat.le_of_ble_eq_true rfl) rfl ?_
  repeat' (first | ((show RRunG _ _ _ (.code (.loop r71l0) :: _) _ _ _; refine RRun.loopIn ?_)) | ((show RRunG _ _ _ (.inLoop r71l0 :: _) _ _ _; refine RRun.inLoop ?_)) | refine S.nilK ?_ | (refine S.op rfl ?_; first | refine R.mv rfl ?_ | refine S.addI rfl rfl (by omega) ?_ | ((first | refine S.lss rfl rfl ?_ ?_) <;> intro hlt <;> try (exfalso; omega))) | refine S.seq ?_ | refine S.region ?_ | refine S.condF rfl ?_ | refine RRun.block ?_ | refine RRun.exit rfl ?_)
  apply S.done rr71
  case hx => repeat (first | exact ResAt.nil)
  rfl
def r63l0 : RCode :=
  (.seq (.seq (.region [
    ⟨(some 11), none, .act, .mv (.tmp 8)⟩,
    ⟨(some 12), none, .act, .mv (.tmp 1)⟩,
    ⟨(some 13), none, .act, .bin .leq (.tmp 11) (.tmp 12)⟩])
  (.cond (.tmp 13)
   .skip
   (.exit 0)))
  (.block 1
   (.seq (.region [
     ⟨(some 14), none, .act, .mv (.tmp 0)⟩,
     ⟨(some 15), none, .act, .mv (.tmp 7)⟩,
     ⟨(some 16), none, .act, .mv (.tmp 8)⟩,
     ⟨(some 17), none, .act, .mv (.tmp 2)⟩,
     ⟨(some 18), none, .act, .call 71 [(.tmp 14), (.tmp 15), (.tmp 16), (.tmp 17)]⟩])
   (.seq (.region [
     ⟨(some 19), none, .act, .mv (.tmp 8)⟩,
     ⟨(some 7), none, .act, .mv (.tmp 19)⟩])
   (.region [
     ⟨(some 20), none, .act, .mv (.tmp 8)⟩,
     ⟨(some 21), none, .act, .mv (.tmp 6)⟩,
     ⟨(some 22), none, .act, .bin .add (.tmp 20) (.tmp 21)⟩,
     ⟨(some 8), none, .act, .mv (.tmp 22)⟩])))))
def r63l2 : RCode :=
  (.seq (.seq (.region [
    ⟨(some 33), none, .act, .mv (.tmp 8)⟩,
    ⟨(some 34), none, .act, .mv (.tmp 1)⟩,
    ⟨(some 35), none, .act, .bin .leq (.tmp 33) (.tmp 34)⟩])
  (.cond (.tmp 35)
   .skip
   (.exit 4)))
  (.block 5
   (.seq (.region [
     ⟨(some 36), none, .act, .mv (.tmp 0)⟩,
     ⟨(some 37), none, .act, .mv (.tmp 7)⟩,
     ⟨(some 38), none, .act, .mv (.tmp 7)⟩,
     ⟨(some 39), none, .act, .mv (.tmp 6)⟩,
     ⟨(some 40), none, .act, .bin .add (.tmp 38) (.tmp 39)⟩,
     ⟨(some 41), none, .act, .mv (.tmp 8)⟩,
     ⟨(some 42), none, .act, .mv (.tmp 2)⟩,
     ⟨(some 43), none, .act, .call 72 [(.tmp 36), (.tmp 37), (.tmp 40), (.tmp 41), (.tmp 42)]⟩])
   (.seq (.region [
     ⟨(some 44), none, .act, .mv (.tmp 8)⟩,
     ⟨(some 7), none, .act, .mv (.tmp 44)⟩])
   (.region [
     ⟨(some 45), none, .act, .mv (.tmp 8)⟩,
     ⟨(some 46), none, .act, .mv (.tmp 6)⟩,
     ⟨(some 47), none, .act, .bin .mul (.const (.int .i64 2)) (.tmp 46)⟩,
     ⟨(some 48), none, .act, .bin .add (.tmp 45) (.tmp 47)⟩,
     ⟨(some 8), none, .act, .mv (.tmp 48)⟩])))))
def r63l1 : RCode :=
  (.seq (.seq (.region [
    ⟨(some 28), none, .act, .mv (.tmp 6)⟩,
    ⟨(some 29), none, .act, .mv (.tmp 1)⟩,
    ⟨(some 30), none, .act, .bin .lss (.tmp 28) (.tmp 29)⟩])
  (.cond (.tmp 30)
   .skip
   (.exit 2)))
  (.block 3
   (.seq (.region [
     ⟨(some 31), none, .act, .mv (.tmp 6)⟩,
     ⟨(some 32), none, .act, .bin .mul (.const (.int .i64 2)) (.tmp 31)⟩,
     ⟨(some 7), none, .act, .mv (.const (.int .i64 0))⟩,
     ⟨(some 8), none, .act, .mv (.tmp 32)⟩])
   (.seq (.block 4
    (.loop r63l2))
   (.seq (.seq (.region [
     ⟨(some 49), none, .act, .mv (.tmp 7)⟩,
     ⟨(some 50), none, .act, .mv (.tmp 6)⟩,
     ⟨(some 51), none, .act, .bin .add (.tmp 49) (.tmp 50)⟩,
     ⟨(some 9), none, .act, .mv (.tmp 51)⟩])
   (.seq (.region [
     ⟨(some 52), none, .act, .mv (.tmp 9)⟩,
     ⟨(some 53), none, .act, .mv (.tmp 1)⟩,
     ⟨(some 54), none, .act, .bin .lss (.tmp 52) (.tmp 53)⟩])
   (.cond (.tmp 54)
    (.region [
      ⟨(some 55), none, .act, .mv (.tmp 0)⟩,
      ⟨(some 56), none, .act, .mv (.tmp 7)⟩,
      ⟨(some 57), none, .act, .mv (.tmp 9)⟩,
      ⟨(some 58), none, .act, .mv (.tmp 1)⟩,
      ⟨(some 59), none, .act, .mv (.tmp 2)⟩,
      ⟨(some 60), none, .act, .call 72 [(.tmp 55), (.tmp 56), (.tmp 57), (.tmp 58), (.tmp 59)]⟩])
    .skip)))
   (.region [
     ⟨(some 61), none, .act, .mv (.tmp 6)⟩,
     ⟨(some 62), none, .act, .bin .mul (.tmp 61) (.const (.int .i64 2))⟩,
     ⟨(some 6), none, .act, .mv (.tmp 62)⟩]))))))
def r63 : RCode :=
  (.seq (.region [
    ⟨(some 6), none, .act, .mv (.const (.int .i64 20))⟩])
  (.seq (.region [
    ⟨(some 10), none, .act, .mv (.tmp 6)⟩,
    ⟨(some 7), none, .act, .mv (.const (.int .i64 0))⟩,
    ⟨(some 8), none, .act, .mv (.tmp 10)⟩])
  (.seq (.block 0
   (.loop r63l0))
  (.seq (.region [
    ⟨(some 23), none, .act, .mv (.tmp 0)⟩,
    ⟨(some 24), none, .act, .mv (.tmp 7)⟩,
    ⟨(some 25), none, .act, .mv (.tmp 1)⟩,
    ⟨(some 26), none, .act, .mv (.tmp 2)⟩,
    ⟨(some 27), none, .act, .call 71 [(.tmp 23), (.tmp 24), (.tmp 25), (.tmp 26)]⟩])
  (.block 2
   (.loop r63l1))))))
theorem res63 : ∃ c, Try.f63.body = some c ∧ resCode Try.prog 63 c = some r63 := ⟨_, rfl, by kernel_rfl⟩
theorem rr63 : resRes Try.prog Try.f63.results.toList = some [] := by kernel_rfl
theorem stable_nil (D F : AV) (h : AHeap) : ACalls Try.prog 63 [D, i64 0, F] h (fun _ h' => h' = h) := by
  have c50 := fun h => insertion_nil D F 0 (by decide) h
  obtain ⟨c', hc1, hc2⟩ := res63
  refine ACalls.enter Try.func63 hc1 Try.ntmps63 hc2 (Nat.le_of_ble_eq_true rfl) rfl ?_
  repeat' (first | ((show RRunG _ _ _ (.code (.loop r63l0) :: _) _ _ _; refine RRun.loopIn ?_)) | ((show RRunG _ _ _ (.inLoop r63l0 :: _) _ _ _; refine RRun.inLoop ?_)) | ((show RRunG _ _ _ (.code (.loop r63l1) :: _) _ _ _; refine RRun.loopIn ?_)) | ((show RRunG _ _ _ (.inLoop r63l1 :: _) _ _ _; refine RRun.inLoop ?_)) | refine S.nilK ?_ | (refine S.op rfl ?_; first | refine callU rfl rfl (c50 _) (fun _ => ?_) | refine R.mv rfl ?_ | ((first | refine S.lss rfl rfl ?_ ?_ | refine S.leq rfl rfl ?_ ?_) <;> intro hlt <;> try (exfalso; omega))) | refine S.seq ?_ | refine S.region ?_ | refine S.condF rfl ?_ | refine RRun.block ?_ | refine RRun.exit rfl ?_)
  apply S.done rr63
  case hx => repeat (first | exact ResAt.nil)
  rfl
theorem stable_two (n : Nat) (D F : AV) (hn : 20 < n) (hn2 : n ≤ 39) (h0 h1 h2 h3 : AHeap)
    (c1 : ACalls Try.prog 71 [D, i64 0, i64 20, F] h0 (fun _ h' => h' = h1)) (c2 : ACalls Try.prog 71 [D, i64 20, i64 n, F] h1 (fun _ h' => h' = h2)) (c3 : ACalls Try.prog 72 [D, i64 0, i64 20, i64 n, F] h2 (fun _ h' => h' = h3)) :
    ACalls Try.prog 63 [D, i64 n, F] h0 (fun _ h' => h' = h3) := by
  obtain ⟨c', hc1, hc2⟩ := res63
  refine ACalls.enter Try.func63 hc1 Try.ntmps63 hc2 (Nat.le_of_ble_eq_true rfl) rfl ?_
  repeat' (first | ((show RRunG _ _ _ (.code (.loop r63l0) :: _) _ _ _; refine RRun.loopIn ?_)) | ((show RRunG _ _ _ (.inLoop r63l0 :: _) _ _ _; refine RRun.inLoop ?_)) | ((show RRunG _ _ _ (.code (.loop r63l1) :: _) _ _ _; refine RRun.loopIn ?_)) | ((show RRunG _ _ _ (.inLoop r63l1 :: _) _ _ _; refine RRun.inLoop ?_)) | ((show RRunG _ _ _ (.code (.loop r63l2) :: _) _ _ _; refine RRun.loopIn ?_)) | ((show RRunG _ _ _ (.inLoop r63l2 :: _) _ _ _; refine RRun.inLoop ?_)) | refine S.nilK ?_ | (refine S.op rfl ?_; first | refine S.addK 0 20 20 rfl rfl (by decide) (by decide) ?_ | refine S.addK 20 20 40 rfl rfl (by decide) (by decide) ?_ | refine S.mulK 2 20 40 rfl rfl (by decide) (by decide) ?_ | refine S.mulK 20 2 40 rfl rfl (by decide) (by decide) ?_ | refine callU rfl rfl c1 (fun _ => ?_) | refine callU rfl rfl c2 (fun _ => ?_) | refine callU rfl rfl c3 (fun _ => ?_) | refine R.mv rfl ?_ | ((first | refine S.lss rfl rfl ?_ ?_ | refine S.leq rfl rfl ?_ ?_) <;> intro hlt <;> try (exfalso; omega))) | refine S.seq ?_ | refine S.region ?_ | refine S.condT rfl ?_ | refine S.condF rfl ?_ | refine RRun.skip ?_ | refine RRun.block ?_ | refine RRun.inBlock ?_ | refine RRun.exit rfl ?_)
  apply S.done rr63
  case hx => repeat (first | exact ResAt.nil)
  rfl
theorem stable_spec {h : AHeap} {q : Nat} (B : Box h q) (n cap : Nat) (A : List Run) (sp : List AV) (hA : A ≠ []) (hn : n = A.length) (hn2 : n ≤ 39) :
    ACalls Try.prog 63 [slAt q 0 n cap, i64 n, cmpA] (HR h q A sp) (fun _ h' => h' = HR h q (St.isort ltT A) sp) := by
  rcases Nat.lt_or_ge n 20 with h1 | h1
  · obtain ⟨c', hc1, hc2⟩ := res63
    refine ACalls.enter Try.func63 hc1 Try.ntmps63 hc2 (Nat.le_of_ble_eq_true rfl) rfl ?_
    have c50 := insertion_spec B n cap 0 n [] A [] sp (by omega) hA rfl (by simp [hn]) (by simp [hn])
    simp only [List.nil_append, List.append_nil] at c50
    repeat' (first | ((show RRunG _ _ _ (.code (.loop r63l0) :: _) _ _ _; refine RRun.loopIn ?_)) | ((show RRunG _ _ _ (.inLoop r63l0 :: _) _ _ _; refine RRun.inLoop ?_)) | ((show RRunG _ _ _ (.code (.loop r63l1) :: _) _ _ _; refine RRun.loopIn ?_)) | ((show RRunG _ _ _ (.inLoop r63l1 :: _) _ _ _; refine RRun.inLoop ?_)) | refine S.nilK ?_ | (refine S.op rfl ?_; first | refine callU rfl rfl c50 (fun _ => ?_) | refine R.mv rfl ?_ | ((first | refine S.lss rfl rfl ?_ ?_ | refine S.leq rfl rfl ?_ ?_) <;> intro hlt <;> try (exfalso; omega))) | refine S.seq ?_ | refine S.region ?_ | refine S.condF rfl ?_ | refine RRun.block ?_ | refine RRun.exit rfl ?_)
    apply S.done rr63
    case hx => repeat (first | exact ResAt.nil)
    rfl
  · have hA' : A.take 20 ++ A.drop 20 = A := List.take_append_drop _ _
    have l1 : (A.take 20).length = 20 := by simp; omega
    have l2 : (A.drop 20).length = n - 20 := by simp; omega
    generalize A.take 20 = A1 at *
    generalize A.drop 20 = A2 at *
    subst hA'
    have c50 := insertion_spec B n cap 0 20 [] A1 A2 sp (by omega) (fun e => by rw [e] at l1; cases l1) rfl (by simp [l1]) (by simp [hn])
    simp only [List.nil_append] at c50
    have li := St.isort_length ltT A1
    have li2 := St.isort_length ltT A2
    rw [St.isort_append ltT_sw]
    by_cases hA2 : A2 = []
    · subst hA2
      simp only [List.length_nil] at l2
      have hn20 : n = 20 := by omega
      subst hn20
      have c50' := fun h => insertion_nil (slAt q 0 20 cap) (cmpA) 20 (by decide) h
      rw [St.isort_nil, St.merge_nil']
      obtain ⟨c', hc1, hc2⟩ := res63
      refine ACalls.enter Try.func63 hc1 Try.ntmps63 hc2 (Nat.le_of_ble_eq_true rfl) rfl ?_
      simp only [List.append_nil] at c50 ⊢
      repeat' (first | ((show RRunG _ _ _ (.code (.loop r63l0) :: _) _ _ _; refine RRun.loopIn ?_)) | ((show RRunG _ _ _ (.inLoop r63l0 :: _) _ _ _; refine RRun.inLoop ?_)) | ((show RRunG _ _ _ (.code (.loop r63l1) :: _) _ _ _; refine RRun.loopIn ?_)) | ((show RRunG _ _ _ (.inLoop r63l1 :: _) _ _ _; refine RRun.inLoop ?_)) | refine S.nilK ?_ | (refine S.op rfl ?_; first | refine S.addK 20 20 40 rfl rfl (by decide) (by decide) ?_ | refine callU rfl rfl c50 (fun _ => ?_) | refine callU rfl rfl (c50' _) (fun _ => ?_) | refine R.mv rfl ?_ | ((first | refine S.lss rfl rfl ?_ ?_ | refine S.leq rfl rfl ?_ ?_) <;> intro hlt <;> try (exfalso; omega))) | refine S.seq ?_ | refine S.region ?_ | refine S.condT rfl ?_ | refine S.condF rfl ?_ | refine RRun.skip ?_ | refine RRun.block ?_ | refine RRun.inBlock ?_ | refine RRun.exit rfl ?_)
      apply S.done rr63
      case hx => repeat (first | exact ResAt.nil)
      rfl
    · have hA2l := List.length_pos_iff.2 hA2
      have c50' := insertion_spec B n cap 20 n (St.isort ltT A1) A2 [] sp (by omega) hA2 (by omega) (by omega) (by simp; omega)
      simp only [List.append_nil] at c50'
      have c51 := sym_spec B n cap sp (by omega) _ [] (St.isort ltT A1) (St.isort ltT A2) [] (Nat.le_refl _) (fun e => by rw [e] at li; simp at li; omega) (fun e => by rw [e] at li2; simp at li2; omega) (St.isort_sorted ltT_sw _) (St.isort_sorted ltT_sw _) (by simp; omega) 0 20 n rfl (by omega) (by omega)
      simp only [List.nil_append, List.append_nil] at c51
      exact stable_two n _ _ (by omega) hn2 _ _ _ _ c50 c50' c51
def r45 : RCode :=
  (.region [
    ⟨(some 4), none, .act, .mv (.tmp 0)⟩,
    ⟨(some 5), none, .act, .mv (.tmp 0)⟩,
    ⟨(some 6), none, .act, .len (.tmp 5)⟩,
    ⟨(some 7), none, .act, .mv (.tmp 1)⟩,
    ⟨(some 8), none, .act, .call 63 [(.tmp 4), (.tmp 6), (.tmp 7)]⟩])
theorem res45 : ∃ c, Try.f45.body = some c ∧ resCode Try.prog 9 c = some r45 := ⟨_, rfl, by kernel_rfl⟩
theorem rr45 : resRes Try.prog Try.f45.results.toList = some [] := by kernel_rfl
theorem ssf_nil (F : AV) (h : AHeap) : ACalls Try.prog 45 [.v (.slice none 0 0), F] h (fun _ h' => h' = h) := by
  have c37 := stable_nil (.v (.slice none 0 0)) F h
  obtain ⟨c', hc1, hc2⟩ := res45
  refine ACalls.enter Try.func45 hc1 Try.ntmps45 hc2 (Nat.le_of_ble_eq_true rfl) rfl ?_
  repeat' (first | refine S.nilK ?_ | (refine S.op rfl ?_; first | refine callU rfl rfl c37 (fun _ => ?_) | refine R.mv rfl ?_ | refine R.lenA rfl ?_) | refine S.region ?_)
  apply S.done rr45
  case hx => repeat (first | exact ResAt.nil)
  rfl
theorem ssf_spec {h : AHeap} {q : Nat} (B : Box h q) (n cap : Nat) (A : List Run) (sp : List AV) (hA : A ≠ []) (hn : n = A.length) (hn2 : n ≤ 39) :
    ACalls Try.prog 45 [slAt q 0 n cap, cmpA] (HR h q A sp) (fun _ h' => h' = HR h q (St.isort ltT A) sp) := by
  have c37 := stable_spec B n cap A sp hA hn hn2
  obtain ⟨c', hc1, hc2⟩ := res45
  refine ACalls.enter Try.func45 hc1 Try.ntmps45 hc2 (Nat.le_of_ble_eq_true rfl) rfl ?_
  repeat' (first | refine S.nilK ?_ | (refine S.op rfl ?_; first | refine callU rfl rfl c37 (fun _ => ?_) | refine R.mv rfl ?_ | refine R.lenA rfl ?_) | refine S.region ?_)
  apply S.done rr45
  case hx => repeat (first | exact ResAt.nil)
  rfl
end Go.Proofs.Ythfolomknkobkaa

namespace Go.Proofs.Ythfolomknkobkaa
open Go.Av
open Go.Ad (Seen Span Run Dep idx idx_some idx_none idx_any idx_find)
theorem S.eqStrD {P : Program} {c : Cls} {E : AEnv} {h : AHeap} {K : AV → AHeap → Prop} {kk : EqK} {x y : Operand} {a b : List UInt8} (hx : aev E x = some (.v (.string ⟨a.toArray⟩))) (hy : aev E y = some (.v (.string ⟨b.toArray⟩))) (hk : K (bl (decide (a = b))) h) : ROpS P c (.eq false kk x y) E h K := by
  refine R.eqStr hx hy ?_
  rw [mk_toList, mk_toList]
  have : (a == b) = decide (a = b) := by
    by_cases e : a = b
    · subst e; simp
    · rw [decide_eq_false e]; simpa using e
  simp only [Bool.false_eq_true, if_false]
  first
    | exact hk
    | (rw [this]; exact hk)
    | simpa using hk
def r39 : RCode :=
  (.seq (.region [
    ⟨(some 4), none, .act, .mv (.const (.bool false))⟩])
  (.seq (.region [
    ⟨(some 5), none, .act, .mv (.tmp 0)⟩,
    ⟨(some 6), none, .act, .toStr (.tmp 5)⟩,
    ⟨(some 7), none, .act, .mv (.tmp 1)⟩,
    ⟨(some 8), none, .act, .toStr (.tmp 7)⟩,
    ⟨(some 9), none, .act, .eq false .str (.tmp 6) (.tmp 8)⟩,
    ⟨(some 4), none, .act, .mv (.tmp 9)⟩])
  .ret))
theorem res39 : ∃ c, Try.f39.body = some c ∧ resCode Try.prog 10 c = some r39 := ⟨_, rfl, by kernel_rfl⟩
theorem rr39 : resRes Try.prog Try.f39.results.toList = some [.tmp 4] := by kernel_rfl
theorem equal_spec (a b : List UInt8) (h : AHeap) : ACalls Try.prog 39 [bys a, bys b] h (fun x h' => x = bl (decide (a = b)) ∧ h' = h) := by
  obtain ⟨c, hc1, hc2⟩ := res39
  refine ACalls.weak (ACalls.enter Try.func39 hc1 Try.ntmps39 hc2 (Nat.le_of_ble_eq_true rfl) rfl ?_)
  repeat' (first | refine S.nilK ?_ | (refine S.op rfl ?_; first | refine R.toStr (l := a) rfl ?_ | refine R.toStr (l := b) rfl ?_ | refine S.eqStrD rfl rfl ?_ | refine R.mv rfl ?_) | refine S.seq ?_ | refine S.region ?_)
  apply S.ret rr39
  case hx => repeat (first | exact ResAt.nil | apply ResAt.tmp rfl)
  exact ⟨_, _, .refl _, (by repeat (first | exact AHeap.le.refl _)), rfl, rfl⟩
theorem index62_loop (l : List (List UInt8)) (hl : l.length ≤ 1000000) (f : FuncId) (cap : List AV) (p : (List UInt8) → Bool) (hp : plainCallee Try.prog f = true) (h : AHeap) (hcl : ∀ x ∈ l, ACalls Try.prog f ([] ++ [bys x] ++ cap) h (fun y h' => y = bl (p x) ∧ h' = h)) (k : List RT) (Q : AV → AHeap → Prop)
    (hk : (∀ x ∈ l, p x = false) → RRun Try.prog Try.f62 19 k (Env.get []) h Q) (hq : ∀ i (hi : i < l.length), p l[i] = true → (∀ j (hj : j < i), p (l[j]'(Nat.lt_trans hj hi)) = false) → Q (i64 (i : Nat)) h) : ∀ (m i : Nat), i + m = l.length → (∀ j (hj : j < l.length), j < i → p l[j] = false) →
    RRun Try.prog Try.f62 19 (.inLoop r62l0 :: .inBlock 0 :: k) (Env.get [(0, keysA l), (1, .fn (.func f) [] cap), (7, i64 l.length), (8, i64 i)]) h Q := by
  intro m
  induction m with
  | zero =>
    intro i hi hno
    refine RRun.inLoop ?_
    repeat' (first | refine S.nilK ?_ | (refine S.op rfl ?_; first | ((first | refine S.lss rfl rfl ?_ ?_) <;> intro hlt <;> try (exfalso; omega))) | refine S.seq ?_ | refine S.region ?_ | refine S.condF rfl ?_ | refine RRun.exit rfl ?_)
    exact S.keep [] rfl (hk fun x hx => by
      obtain ⟨j, hj, rfl⟩ := List.getElem_of_mem hx
      exact hno j hj (by omega))
  | succ m ih =>
    intro i hi hno
    have hie : i < l.length := by omega
    have h1 : (l.map fun k => [bys k])[((i : Nat) : Int).toNat]? = some ([bys l[i]]) := by simp [hie]
    have c1 := hcl l[i] (List.getElem_mem hie)
    have hq1 := hq i hie
    have hn1 : p l[i] = false → (∀ j (hj : j < l.length), j < i + 1 → p l[j] = false) := fun e j hj hlt => by
      by_cases e2 : j = i
      · subst e2; exact e
      · exact hno j hj (by omega)
    have hn2 : ∀ j (hj : j < i), p (l[j]'(Nat.lt_trans hj hie)) = false := fun j hj => hno j _ hj
    generalize hx : l[i] = x at h1 c1 hq1 hn1
    generalize p x = b at c1 hq1 hn1
    refine RRun.inLoop ?_
    cases b with
    | true =>
      repeat' (first | refine S.nilK ?_ | (refine S.op rfl ?_; first | refine R.indexAddr rfl rfl (by omega) h1 ?_ | refine R.callAQ (by decide) rfl hp rfl c1 ?_ | refine R.mv rfl ?_ | refine R.loadR rfl rfl ?_ | ((first | refine S.lss rfl rfl ?_ ?_) <;> intro hlt <;> try (exfalso; omega))) | refine S.seq ?_ | refine S.region ?_ | refine S.condT rfl ?_ | refine RRun.skip ?_ | refine RRun.block ?_)
      apply S.ret rr62
      case hx => repeat (first | exact ResAt.nil | apply ResAt.tmp rfl)
      exact hq1 rfl hn2
    | false =>
      repeat' (first | refine S.nilK ?_ | (refine S.op rfl ?_; first | refine R.indexAddr rfl rfl (by omega) h1 ?_ | refine R.callAQ (by decide) rfl hp rfl c1 ?_ | refine R.mv rfl ?_ | refine R.loadR rfl rfl ?_ | refine S.addI rfl rfl (by omega) ?_ | ((first | refine S.lss rfl rfl ?_ ?_) <;> intro hlt <;> try (exfalso; omega))) | refine S.seq ?_ | refine S.region ?_ | refine S.condT rfl ?_ | refine S.condF rfl ?_ | refine RRun.skip ?_ | refine RRun.block ?_ | refine RRun.inBlock ?_)
      rw [show ((i : Int) + 1) = ((i + 1 : Nat) : Int) by omega]
      exact S.keep [0, 1, 7, 8] rfl (ih (i + 1) (by omega) (hn1 rfl))
theorem index62_spec (l : List (List UInt8)) (hl : l.length ≤ 1000000) (f : FuncId) (cap : List AV) (p : (List UInt8) → Bool) (hp : plainCallee Try.prog f = true) (h : AHeap) (hcl : ∀ x ∈ l, ACalls Try.prog f ([] ++ [bys x] ++ cap) h (fun y h' => y = bl (p x) ∧ h' = h)) :
    ACalls Try.prog 62 [keysA l, .fn (.func f) [] cap] h (fun x h' => x = i64 (idx p l) ∧ h' = h) := by
  obtain ⟨c, hc1, hc2⟩ := res62
  refine ACalls.weak (ACalls.enter Try.func62 hc1 Try.ntmps62 hc2 (Nat.le_of_ble_eq_true rfl) rfl ?_)
  have hlen : (l.map fun k => [bys k]).length = l.length := by simp
  repeat' (first | refine S.nilK ?_ | (refine S.op rfl ?_; first | refine R.mv rfl ?_ | refine R.len rfl ?_) | refine S.seq ?_ | refine S.region ?_ | refine RRun.block ?_)
  rw [hlen]
  refine RRun.loopIn (S.keep [0, 1, 7, 8] rfl (index62_loop l hl f cap p hp h hcl _ _ (fun hno => ?_) (fun i hi h1 h2 => ⟨_, h, .refl _, .refl _, by rw [idx_some hi h1 h2], rfl⟩) l.length 0 (by omega) (fun j _ hj => absurd hj (Nat.not_lt_zero _))))
  repeat' (first | refine S.nilK ?_ | (refine S.op rfl ?_; first | refine R.mv rfl ?_) | refine S.seq ?_ | refine S.region ?_)
  apply S.ret rr62
  case hx => repeat (first | exact ResAt.nil | apply ResAt.tmp rfl)
  exact ⟨_, h, .refl _, .refl _, by rw [idx_none hno]; rfl, rfl⟩
theorem any43_spec (l : List (List UInt8)) (hl : l.length ≤ 1000000) (f : FuncId) (cap : List AV) (p : (List UInt8) → Bool) (hp : plainCallee Try.prog f = true) (h : AHeap) (hcl : ∀ x ∈ l, ACalls Try.prog f ([] ++ [bys x] ++ cap) h (fun y h' => y = bl (p x) ∧ h' = h)) :
    ACalls Try.prog 43 [keysA l, .fn (.func f) [] cap] h (fun x h' => x = bl (l.any p) ∧ h' = h) := by
  have c1 := index62_spec l hl f cap p hp h hcl
  rw [← idx_any]
  generalize idx p l = i at c1
  obtain ⟨c, hc1, hc2⟩ := res43
  refine ACalls.weak (ACalls.enter Try.func43 hc1 Try.ntmps43 hc2 (Nat.le_of_ble_eq_true rfl) rfl ?_)
  repeat' (first | refine S.nilK ?_ | (refine S.op rfl ?_; first | refine R.callQ (by decide) rfl c1 ?_ | refine R.mv rfl ?_ | ((first | refine S.geq rfl rfl ?_ ?_) <;> intro hlt <;> try (exfalso; omega))) | refine S.seq ?_ | refine S.region ?_)
  all_goals
    apply S.ret rr43
    case hx => repeat (first | exact ResAt.nil | apply ResAt.tmp rfl)
    refine ⟨_, _, .refl _, (by repeat (first | exact AHeap.le.refl _)), ?_, rfl⟩
    first
      | (rw [decide_eq_true (by omega)]; rfl)
      | (rw [decide_eq_false (by omega)]; rfl)
def r65l0 : RCode :=
  (.seq (.region [
    ⟨(some 9), none, .act, .bin .lss (.tmp 8) (.tmp 7)⟩])
  (.seq (.cond (.tmp 9)
   .skip
   (.exit 0))
  (.seq (.block 1
   (.seq (.region [
     ⟨(some 10), none, .act, .mv (.tmp 8)⟩,
     ⟨(some 5), none, .act, .mv (.tmp 10)⟩])
   (.seq (.region [
     ⟨(some 11), none, .act, .mv (.tmp 1)⟩,
     ⟨(some 12), none, .act, .mv (.tmp 0)⟩,
     ⟨(some 13), none, .act, .mv (.tmp 5)⟩,
     ⟨(some 14), none, .act, .indexAddr 2 (.tmp 12) (.tmp 13)⟩,
     ⟨(some 15), none, .act, .load true 2 (.tmp 14)⟩,
     ⟨(some 16), none, .act, .callv (.tmp 11) [(.tmp 15)]⟩])
   (.cond (.tmp 16)
    (.seq (.region [
      ⟨(some 17), none, .act, .mv (.tmp 5)⟩,
      ⟨(some 4), none, .act, .mv (.tmp 17)⟩])
    .ret)
    .skip))))
  (.region [
    ⟨(some 18), none, .act, .bin .add (.tmp 8) (.const (.int .i64 1))⟩,
    ⟨(some 8), none, .act, .mv (.tmp 18)⟩]))))
def r65 : RCode :=
  (.seq (.region [
    ⟨(some 4), none, .act, .mv (.const (.int .i64 0))⟩])
  (.seq (.seq (.region [
    ⟨(some 6), none, .act, .mv (.tmp 0)⟩,
    ⟨(some 7), none, .act, .len (.tmp 6)⟩,
    ⟨(some 8), none, .act, .mv (.const (.int .i64 0))⟩])
  (.block 0
   (.loop r65l0)))
  (.seq (.region [
    ⟨(some 4), none, .act, .mv (.const (.int .i64 (-1)))⟩])
  .ret)))
theorem res65 : ∃ c, Try.f65.body = some c ∧ resCode Try.prog 19 c = some r65 := ⟨_, rfl, by kernel_rfl⟩
theorem rr65 : resRes Try.prog Try.f65.results.toList = some [.tmp 4] := by kernel_rfl
theorem index65_loop (l : List Span) (hl : l.length ≤ 1000000) (f : FuncId) (cap : List AV) (p : Span → Bool) (hp : plainCallee Try.prog f = true) (h : AHeap) (hcl : ∀ x ∈ l, ACalls Try.prog f ([] ++ [.ag (spanC x)] ++ cap) h (fun y h' => y = bl (p x) ∧ h' = h)) (k : List RT) (Q : AV → AHeap → Prop)
    (hk : (∀ x ∈ l, p x = false) → RRun Try.prog Try.f65 19 k (Env.get []) h Q) (hq : ∀ i (hi : i < l.length), p l[i] = true → (∀ j (hj : j < i), p (l[j]'(Nat.lt_trans hj hi)) = false) → Q (i64 (i : Nat)) h) : ∀ (m i : Nat), i + m = l.length → (∀ j (hj : j < l.length), j < i → p l[j] = false) →
    RRun Try.prog Try.f65 19 (.inLoop r65l0 :: .inBlock 0 :: k) (Env.get [(0, spansA l), (1, .fn (.func f) [] cap), (7, i64 l.length), (8, i64 i)]) h Q := by
  intro m
  induction m with
  | zero =>
    intro i hi hno
    refine RRun.inLoop ?_
    repeat' (first | refine S.nilK ?_ | (refine S.op rfl ?_; first | ((first | refine S.lss rfl rfl ?_ ?_) <;> intro hlt <;> try (exfalso; omega))) | refine S.seq ?_ | refine S.region ?_ | refine S.condF rfl ?_ | refine RRun.exit rfl ?_)
    exact S.keep [] rfl (hk fun x hx => by
      obtain ⟨j, hj, rfl⟩ := List.getElem_of_mem hx
      exact hno j hj (by omega))
  | succ m ih =>
    intro i hi hno
    have hie : i < l.length := by omega
    have h1 : (l.map fun k => spanC k)[((i : Nat) : Int).toNat]? = some (spanC l[i]) := by simp [hie]
    have c1 := hcl l[i] (List.getElem_mem hie)
    have hq1 := hq i hie
    have hn1 : p l[i] = false → (∀ j (hj : j < l.length), j < i + 1 → p l[j] = false) := fun e j hj hlt => by
      by_cases e2 : j = i
      · subst e2; exact e
      · exact hno j hj (by omega)
    have hn2 : ∀ j (hj : j < i), p (l[j]'(Nat.lt_trans hj hie)) = false := fun j hj => hno j _ hj
    generalize hx : l[i] = x at h1 c1 hq1 hn1
    generalize p x = b at c1 hq1 hn1
    refine RRun.inLoop ?_
    cases b with
    | true =>
      repeat' (first | refine S.nilK ?_ | (refine S.op rfl ?_; first | refine R.indexAddr rfl rfl (by omega) h1 ?_ | refine R.callAQ (by decide) rfl hp rfl c1 ?_ | refine R.mv rfl ?_ | refine R.loadR rfl rfl ?_ | ((first | refine S.lss rfl rfl ?_ ?_) <;> intro hlt <;> try (exfalso; omega))) | refine S.seq ?_ | refine S.region ?_ | refine S.condT rfl ?_ | refine RRun.skip ?_ | refine RRun.block ?_)
      apply S.ret rr65
      case hx => repeat (first | exact ResAt.nil | apply ResAt.tmp rfl)
      exact hq1 rfl hn2
    | false =>
      repeat' (first | refine S.nilK ?_ | (refine S.op rfl ?_; first | refine R.indexAddr rfl rfl (by omega) h1 ?_ | refine R.callAQ (by decide) rfl hp rfl c1 ?_ | refine R.mv rfl ?_ | refine R.loadR rfl rfl ?_ | refine S.addI rfl rfl (by omega) ?_ | ((first | refine S.lss rfl rfl ?_ ?_) <;> intro hlt <;> try (exfalso; omega))) | refine S.seq ?_ | refine S.region ?_ | refine S.condT rfl ?_ | refine S.condF rfl ?_ | refine RRun.skip ?_ | refine RRun.block ?_ | refine RRun.inBlock ?_)
      rw [show ((i : Int) + 1) = ((i + 1 : Nat) : Int) by omega]
      exact S.keep [0, 1, 7, 8] rfl (ih (i + 1) (by omega) (hn1 rfl))
theorem index65_spec (l : List Span) (hl : l.length ≤ 1000000) (f : FuncId) (cap : List AV) (p : Span → Bool) (hp : plainCallee Try.prog f = true) (h : AHeap) (hcl : ∀ x ∈ l, ACalls Try.prog f ([] ++ [.ag (spanC x)] ++ cap) h (fun y h' => y = bl (p x) ∧ h' = h)) :
    ACalls Try.prog 65 [spansA l, .fn (.func f) [] cap] h (fun x h' => x = i64 (idx p l) ∧ h' = h) := by
  obtain ⟨c, hc1, hc2⟩ := res65
  refine ACalls.weak (ACalls.enter Try.func65 hc1 Try.ntmps65 hc2 (Nat.le_of_ble_eq_true rfl) rfl ?_)
  have hlen : (l.map fun k => spanC k).length = l.length := by simp
  repeat' (first | refine S.nilK ?_ | (refine S.op rfl ?_; first | refine R.mv rfl ?_ | refine R.len rfl ?_) | refine S.seq ?_ | refine S.region ?_ | refine RRun.block ?_)
  rw [hlen]
  refine RRun.loopIn (S.keep [0, 1, 7, 8] rfl (index65_loop l hl f cap p hp h hcl _ _ (fun hno => ?_) (fun i hi h1 h2 => ⟨_, h, .refl _, .refl _, by rw [idx_some hi h1 h2], rfl⟩) l.length 0 (by omega) (fun j _ hj => absurd hj (Nat.not_lt_zero _))))
  repeat' (first | refine S.nilK ?_ | (refine S.op rfl ?_; first | refine R.mv rfl ?_) | refine S.seq ?_ | refine S.region ?_)
  apply S.ret rr65
  case hx => repeat (first | exact ResAt.nil | apply ResAt.tmp rfl)
  exact ⟨_, h, .refl _, .refl _, by rw [idx_none hno]; rfl, rfl⟩
def r49 : RCode :=
  (.seq (.region [
    ⟨(some 4), none, .act, .mv (.const (.bool false))⟩])
  (.seq (.region [
    ⟨(some 5), none, .act, .mv (.tmp 0)⟩,
    ⟨(some 6), none, .act, .mv (.tmp 1)⟩,
    ⟨(some 7), none, .act, .call 65 [(.tmp 5), (.tmp 6)]⟩,
    ⟨(some 8), none, .act, .bin .geq (.tmp 7) (.const (.int .i64 0))⟩,
    ⟨(some 4), none, .act, .mv (.tmp 8)⟩])
  .ret))
theorem res49 : ∃ c, Try.f49.body = some c ∧ resCode Try.prog 9 c = some r49 := ⟨_, rfl, by kernel_rfl⟩
theorem rr49 : resRes Try.prog Try.f49.results.toList = some [.tmp 4] := by kernel_rfl
theorem any49_spec (l : List Span) (hl : l.length ≤ 1000000) (f : FuncId) (cap : List AV) (p : Span → Bool) (hp : plainCallee Try.prog f = true) (h : AHeap) (hcl : ∀ x ∈ l, ACalls Try.prog f ([] ++ [.ag (spanC x)] ++ cap) h (fun y h' => y = bl (p x) ∧ h' = h)) :
    ACalls Try.prog 49 [spansA l, .fn (.func f) [] cap] h (fun x h' => x = bl (l.any p) ∧ h' = h) := by
  have c1 := index65_spec l hl f cap p hp h hcl
  rw [← idx_any]
  generalize idx p l = i at c1
  obtain ⟨c, hc1, hc2⟩ := res49
  refine ACalls.weak (ACalls.enter Try.func49 hc1 Try.ntmps49 hc2 (Nat.le_of_ble_eq_true rfl) rfl ?_)
  repeat' (first | refine S.nilK ?_ | (refine S.op rfl ?_; first | refine R.callQ (by decide) rfl c1 ?_ | refine R.mv rfl ?_ | ((first | refine S.geq rfl rfl ?_ ?_) <;> intro hlt <;> try (exfalso; omega))) | refine S.seq ?_ | refine S.region ?_)
  all_goals
    apply S.ret rr49
    case hx => repeat (first | exact ResAt.nil | apply ResAt.tmp rfl)
    refine ⟨_, _, .refl _, (by repeat (first | exact AHeap.le.refl _)), ?_, rfl⟩
    first
      | (rw [decide_eq_true (by omega)]; rfl)
      | (rw [decide_eq_false (by omega)]; rfl)
theorem index52_loop (l : List Run) (hl : l.length ≤ 1000000) (f : FuncId) (cap : List AV) (p : Run → Bool) (hp : plainCallee Try.prog f = true) (h : AHeap) (hcl : ∀ x ∈ l, ACalls Try.prog f ([] ++ [.ag (runC x)] ++ cap) h (fun y h' => y = bl (p x) ∧ h' = h)) (k : List RT) (Q : AV → AHeap → Prop)
    (hk : (∀ x ∈ l, p x = false) → RRun Try.prog Try.f52 19 k (Env.get []) h Q) (hq : ∀ i (hi : i < l.length), p l[i] = true → (∀ j (hj : j < i), p (l[j]'(Nat.lt_trans hj hi)) = false) → Q (i64 (i : Nat)) h) : ∀ (m i : Nat), i + m = l.length → (∀ j (hj : j < l.length), j < i → p l[j] = false) →
    RRun Try.prog Try.f52 19 (.inLoop r52l0 :: .inBlock 0 :: k) (Env.get [(0, runsA l), (1, .fn (.func f) [] cap), (7, i64 l.length), (8, i64 i)]) h Q := by
  intro m
  induction m with
  | zero =>
    intro i hi hno
    refine RRun.inLoop ?_
    repeat' (first | refine S.nilK ?_ | (refine S.op rfl ?_; first | ((first | refine S.lss rfl rfl ?_ ?_) <;> intro hlt <;> try (exfalso; omega))) | refine S.seq ?_ | refine S.region ?_ | refine S.condF rfl ?_ | refine RRun.exit rfl ?_)
    exact S.keep [] rfl (hk fun x hx => by
      obtain ⟨j, hj, rfl⟩ := List.getElem_of_mem hx
      exact hno j hj (by omega))
  | succ m ih =>
    intro i hi hno
    have hie : i < l.length := by omega
    have h1 : (l.map fun k => runC k)[((i : Nat) : Int).toNat]? = some (runC l[i]) := by simp [hie]
    have c1 := hcl l[i] (List.getElem_mem hie)
    have hq1 := hq i hie
    have hn1 : p l[i] = false → (∀ j (hj : j < l.length), j < i + 1 → p l[j] = false) := fun e j hj hlt => by
      by_cases e2 : j = i
      · subst e2; exact e
      · exact hno j hj (by omega)
    have hn2 : ∀ j (hj : j < i), p (l[j]'(Nat.lt_trans hj hie)) = false := fun j hj => hno j _ hj
    generalize hx : l[i] = x at h1 c1 hq1 hn1
    generalize p x = b at c1 hq1 hn1
    refine RRun.inLoop ?_
    cases b with
    | true =>
      repeat' (first | refine S.nilK ?_ | (refine S.op rfl ?_; first | refine R.indexAddr rfl rfl (by omega) h1 ?_ | refine R.callAQ (by decide) rfl hp rfl c1 ?_ | refine R.mv rfl ?_ | refine R.loadR rfl rfl ?_ | ((first | refine S.lss rfl rfl ?_ ?_) <;> intro hlt <;> try (exfalso; omega))) | refine S.seq ?_ | refine S.region ?_ | refine S.condT rfl ?_ | refine RRun.skip ?_ | refine RRun.block ?_)
      apply S.ret rr52
      case hx => repeat (first | exact ResAt.nil | apply ResAt.tmp rfl)
      exact hq1 rfl hn2
    | false =>
      repeat' (first | refine S.nilK ?_ | (refine S.op rfl ?_; first | refine R.indexAddr rfl rfl (by omega) h1 ?_ | refine R.callAQ (by decide) rfl hp rfl c1 ?_ | refine R.mv rfl ?_ | refine R.loadR rfl rfl ?_ | refine S.addI rfl rfl (by omega) ?_ | ((first | refine S.lss rfl rfl ?_ ?_) <;> intro hlt <;> try (exfalso; omega))) | refine S.seq ?_ | refine S.region ?_ | refine S.condT rfl ?_ | refine S.condF rfl ?_ | refine RRun.skip ?_ | refine RRun.block ?_ | refine RRun.inBlock ?_)
      rw [show ((i : Int) + 1) = ((i + 1 : Nat) : Int) by omega]
      exact S.keep [0, 1, 7, 8] rfl (ih (i + 1) (by omega) (hn1 rfl))
theorem index52_spec (l : List Run) (hl : l.length ≤ 1000000) (f : FuncId) (cap : List AV) (p : Run → Bool) (hp : plainCallee Try.prog f = true) (h : AHeap) (hcl : ∀ x ∈ l, ACalls Try.prog f ([] ++ [.ag (runC x)] ++ cap) h (fun y h' => y = bl (p x) ∧ h' = h)) :
    ACalls Try.prog 52 [runsA l, .fn (.func f) [] cap] h (fun x h' => x = i64 (idx p l) ∧ h' = h) := by
  obtain ⟨c, hc1, hc2⟩ := res52
  refine ACalls.weak (ACalls.enter Try.func52 hc1 Try.ntmps52 hc2 (Nat.le_of_ble_eq_true rfl) rfl ?_)
  have hlen : (l.map fun k => runC k).length = l.length := by simp
  repeat' (first | refine S.nilK ?_ | (refine S.op rfl ?_; first | refine R.mv rfl ?_ | refine R.len rfl ?_) | refine S.seq ?_ | refine S.region ?_ | refine RRun.block ?_)
  rw [hlen]
  refine RRun.loopIn (S.keep [0, 1, 7, 8] rfl (index52_loop l hl f cap p hp h hcl _ _ (fun hno => ?_) (fun i hi h1 h2 => ⟨_, h, .refl _, .refl _, by rw [idx_some hi h1 h2], rfl⟩) l.length 0 (by omega) (fun j _ hj => absurd hj (Nat.not_lt_zero _))))
  repeat' (first | refine S.nilK ?_ | (refine S.op rfl ?_; first | refine R.mv rfl ?_) | refine S.seq ?_ | refine S.region ?_)
  apply S.ret rr52
  case hx => repeat (first | exact ResAt.nil | apply ResAt.tmp rfl)
  exact ⟨_, h, .refl _, .refl _, by rw [idx_none hno]; rfl, rfl⟩
def r44 : RCode :=
  (.seq (.region [
    ⟨(some 3), none, .act, .mv (.const (.bool false))⟩])
  (.seq (.region [
    ⟨(some 4), none, .act, .mv (.tmp 0)⟩,
    ⟨(some 5), none, .act, .load false 1 (.tmp 1)⟩,
    ⟨(some 6), none, .act, .call 39 [(.tmp 4), (.tmp 5)]⟩,
    ⟨(some 3), none, .act, .mv (.tmp 6)⟩])
  .ret))
theorem res44 : ∃ c, Try.f44.body = some c ∧ resCode Try.prog 7 c = some r44 := ⟨_, rfl, by kernel_rfl⟩
theorem rr44 : resRes Try.prog Try.f44.results.toList = some [.tmp 3] := by kernel_rfl
theorem isKey_spec (k key : List UInt8) (b : Nat) (h : AHeap) (hb : h b = some (.box [bys key])) : ACalls Try.prog 44 ([] ++ [bys k] ++ [ptr b]) h (fun y h' => y = bl (decide (k = key)) ∧ h' = h) := by
  have c1 := equal_spec k key
  obtain ⟨c, hc1, hc2⟩ := res44
  refine ACalls.weak (ACalls.enter Try.func44 hc1 Try.ntmps44 hc2 (Nat.le_of_ble_eq_true rfl) rfl ?_)
  repeat' (first | refine S.nilK ?_ | (refine S.op rfl ?_; first | refine R.callQ (by decide) rfl (c1 _) ?_ | refine R.mv rfl ?_ | refine R.load (by decide) rfl (by (repeat' (first | assumption)); first | done | fail) rfl ?_) | refine S.seq ?_ | refine S.region ?_)
  apply S.ret rr44
  case hx => repeat (first | exact ResAt.nil | apply ResAt.tmp rfl)
  exact ⟨_, _, .refl _, (by repeat (first | exact AHeap.le.refl _)), rfl, rfl⟩
end Go.Proofs.Ythfolomknkobkaa

namespace Go.Proofs.Ythfolomknkobkaa
open Go.Av
open Go.Ad (Seen Span Run Dep ltT wrote order)
def RunsAt (h₀ : AHeap) (d : List Run) (v : AV) (h : AHeap) : Prop :=
  (d = [] ∧ v = .v (.slice none 0 0) ∧ h = h₀) ∨ ∃ q cap sp, h₀ q = none ∧ v = slAt q 0 d.length cap ∧ h = HR h₀ q d sp ∧ d.length * 8 + sp.length = cap * 8 ∧ cap ≤ maxLen ∧ d ≠ []
theorem run_one (r : Run) : ∀ e ∈ [runC r], ∀ a ∈ e, a.one = true := by
  intro e he a ha
  simp only [List.mem_singleton] at he
  subst he
  exact List.all_eq_true.1 (runC_one r) a ha
theorem over_end (A Z X : List AV) (n : Nat) (hn : n = A.length) : over (A ++ Z) n X = A ++ X ++ Z.drop X.length := by
  subst hn
  unfold over
  rw [List.take_left, List.drop_append, List.drop_of_length_le (by omega), List.nil_append, show A.length + X.length - A.length = X.length by omega]
theorem rcs_snoc (d : List Run) (r : Run) : rcs (d ++ [r]) = rcs d ++ runC r := by simp [rcs]
theorem S.pushRun {P : Program} {c : Cls} {E : AEnv} {h₀ h : AHeap} {K : AV → AHeap → Prop} {zero : List Value} {x y : Operand} {v y' : AV} {d : List Run} {r : Run} (hc : c = .act) (hr : RunsAt h₀ d v h) (hx : aev E x = some v) (hy : aev E y = some y') (hs : Go.Av.Src 8 y' [runC r]) (hl : d.length ≤ 1000000)
    (hk : ∀ v' h', RunsAt h₀ (d ++ [r]) v' h' → K v' h') : ROpS P c (.append 8 112 zero x y) E h K := by
  rcases hr with ⟨rfl, rfl, rfl⟩ | ⟨p, cap, sp, h1, rfl, rfl, h2, h3, h4⟩
  · refine R.appendBox hc hx .nil hy hs (run_one r) (by simp) (by simp) (by simp) (fun p cap hp hc1 hc2 => hk _ _ (.inr ⟨p, cap, List.replicate ((cap - 1) * 8) .any, hp, rfl, ?_, ?_, hc2, by simp⟩))
    · unfold HR; simp [rcs]
    · simp only [List.length_singleton] at hc1
      simp only [List.nil_append, List.length_singleton, List.length_replicate]; omega
  · refine ROpS.weak hc ?_
    refine R.appendOwn hc hx (HR_at _ _ _ _) (by rw [List.length_append, rcs_len]; omega) (by omega) hy hs (run_one r) (by simp) (by simp; omega) (by simp; omega) (fun hroom => ?_) (fun p' cap' hp' hc1 hc2 => ?_)
    · simp only [List.length_singleton] at hroom
      refine ⟨_, _, .refl _, .refl _, hk _ _ (.inr ⟨p, cap, sp.drop 8, h1, ?_, ?_, ?_, h3, by simp⟩)⟩
      · simp
      · have hf : [runC r].flatten = runC r := by simp
        rw [hf, over_end _ _ _ _ (by rw [rcs_len]; omega)]
        unfold HR
        rw [AHeap.set_set, rcs_snoc]; rfl
      · rw [List.length_append, List.length_singleton, List.length_drop]; omega
    · have hp0 := AHeap.fresh_set hp'
      simp only [List.length_singleton] at hc1
      refine ⟨_, _, .refl _, ((AHeap.le.refl h₀).set _ h1).both p' _, hk _ _ (.inr ⟨p', cap', List.replicate ((cap' - (d.length + 1)) * 8) .any, hp0.2, ?_, ?_, ?_, hc2, by simp⟩)⟩
      · simp
      · unfold HR
        have hf : [runC r].flatten = runC r := by simp
        rw [hf, rcs_snoc]
        have ht : (List.drop 0 (rcs d ++ sp)).take (d.length * 8) = rcs d := by rw [List.drop_zero, List.take_append_of_le_length (by rw [rcs_len]; omega), List.take_of_length_le (by rw [rcs_len]; omega)]
        simp only [List.length_singleton]
        rw [ht]
      · rw [List.length_append, List.length_singleton, List.length_replicate]; omega
end Go.Proofs.Ythfolomknkobkaa
