import Derived.Test.YtcjcmegkfplnkaaL8
set_option linter.unusedVariables false
set_option linter.unusedSimpArgs false
namespace Go.Proofs.Ytcjcmegkfplnkaa
open Go.Av

/-! ### The reference's token -/

theorem wordOf_yes {c : UInt8} (r : List UInt8) (h : isWord c = true) : wordOf (c :: r) = c :: wordOf r := by unfold wordOf; rw [List.takeWhile_cons, if_pos h]
theorem wordOf_no {c : UInt8} (r : List UInt8) (h : isWord c = false) : wordOf (c :: r) = [] := by unfold wordOf; rw [List.takeWhile_cons, if_neg (by rw [h]; decide)]
theorem digits_yes {c : UInt8} (r : List UInt8) (h : isDigit c = true) : digits (c :: r) = c :: digits r := by unfold digits; rw [List.takeWhile_cons, if_pos h]
theorem digits_no {c : UInt8} (r : List UInt8) (h : isDigit c = false) : digits (c :: r) = [] := by unfold digits; rw [List.takeWhile_cons, if_neg (by rw [h]; decide)]

def r13l0 : RCode :=
  (.seq (.seq (.region [
    ⟨(some 25), none, .act, .mv (.tmp 8)⟩,
    ⟨(some 26), none, .act, .mv (.tmp 0)⟩,
    ⟨(some 27), none, .act, .lenStr (.tmp 26)⟩,
    ⟨(some 28), none, .act, .bin .lss (.tmp 25) (.tmp 27)⟩,
    ⟨(some 29), none, .act, .mv (.tmp 28)⟩,
    ⟨(some 30), (some (29, true)), .act, .mv (.tmp 0)⟩,
    ⟨(some 31), (some (29, true)), .act, .mv (.tmp 8)⟩,
    ⟨(some 32), (some (29, true)), .act, .indexStr (.tmp 30) (.tmp 31)⟩,
    ⟨(some 33), (some (29, true)), .act, .call 20 [(.tmp 32)]⟩,
    ⟨(some 34), (some (29, true)), .act, .mv (.tmp 33)⟩,
    ⟨(some 35), (some (34, false)), .act, .mv (.tmp 0)⟩,
    ⟨(some 36), (some (34, false)), .act, .mv (.tmp 8)⟩,
    ⟨(some 37), (some (34, false)), .act, .indexStr (.tmp 35) (.tmp 36)⟩,
    ⟨(some 38), (some (34, false)), .act, .call 21 [(.tmp 37)]⟩,
    ⟨(some 39), (some (29, true)), .act, .pick (.tmp 34) (.const (.bool true)) (.tmp 38)⟩,
    ⟨(some 40), none, .act, .pick (.tmp 29) (.tmp 39) (.const (.bool false))⟩])
  (.cond (.tmp 40)
   .skip
   (.exit 1)))
  (.block 2
   (.seq (.region [
     ⟨(some 41), none, .act, .mv (.tmp 0)⟩,
     ⟨(some 42), none, .act, .mv (.tmp 8)⟩,
     ⟨(some 43), none, .act, .indexStr (.tmp 41) (.tmp 42)⟩,
     ⟨(some 10), none, .act, .mv (.tmp 43)⟩])
   (.seq (.seq (.region [
     ⟨(some 44), none, .act, .mv (.tmp 10)⟩,
     ⟨(some 45), none, .act, .bin .geq (.tmp 44) (.const (.int .u8 65))⟩,
     ⟨(some 46), none, .act, .mv (.tmp 45)⟩,
     ⟨(some 47), (some (46, true)), .act, .mv (.tmp 10)⟩,
     ⟨(some 48), (some (46, true)), .act, .bin .leq (.tmp 47) (.const (.int .u8 90))⟩,
     ⟨(some 49), none, .act, .pick (.tmp 46) (.tmp 48) (.const (.bool false))⟩])
   (.cond (.tmp 49)
    (.region [
      ⟨(some 50), none, .act, .mv (.tmp 10)⟩,
      ⟨(some 51), none, .act, .bin .add (.tmp 50) (.const (.int .u8 32))⟩,
      ⟨(some 10), none, .act, .mv (.tmp 51)⟩])
    .skip))
   (.seq (.region [
     ⟨(some 52), none, .act, .fieldAddr 1 (.tmp 7)⟩,
     ⟨(some 53), none, .act, .load false 1 (.tmp 52)⟩,
     ⟨(some 54), none, .act, .mv (.tmp 10)⟩,
     ⟨(some 55), none, .act, .buildSl 1 [(.int .u8 0)] 1 [(0, (.tmp 54))]⟩,
     ⟨(some 56), none, .act, .toStr (.tmp 55)⟩,
     ⟨(some 57), none, .act, .bin .add (.tmp 53) (.tmp 56)⟩,
     ⟨(some 58), none, .act, .fieldAddr 1 (.tmp 7)⟩,
     ⟨none, none, .act, .store 1 (.tmp 58) (.tmp 57)⟩])
   (.region [
     ⟨(some 59), none, .act, .mv (.tmp 8)⟩,
     ⟨(some 60), none, .act, .bin .add (.tmp 59) (.const (.int .i64 1))⟩,
     ⟨(some 8), none, .act, .mv (.tmp 60)⟩]))))))
def r13l1 : RCode :=
  (.seq (.seq (.region [
    ⟨(some 67), none, .act, .mv (.tmp 8)⟩,
    ⟨(some 68), none, .act, .mv (.tmp 0)⟩,
    ⟨(some 69), none, .act, .lenStr (.tmp 68)⟩,
    ⟨(some 70), none, .act, .bin .lss (.tmp 67) (.tmp 69)⟩,
    ⟨(some 71), none, .act, .mv (.tmp 70)⟩,
    ⟨(some 72), (some (71, true)), .act, .mv (.tmp 0)⟩,
    ⟨(some 73), (some (71, true)), .act, .mv (.tmp 8)⟩,
    ⟨(some 74), (some (71, true)), .act, .indexStr (.tmp 72) (.tmp 73)⟩,
    ⟨(some 75), (some (71, true)), .act, .call 21 [(.tmp 74)]⟩,
    ⟨(some 76), none, .act, .pick (.tmp 71) (.tmp 75) (.const (.bool false))⟩])
  (.cond (.tmp 76)
   .skip
   (.exit 3)))
  (.block 4
   (.seq (.region [
     ⟨(some 77), none, .act, .mv (.tmp 0)⟩,
     ⟨(some 78), none, .act, .mv (.tmp 8)⟩,
     ⟨(some 79), none, .act, .indexStr (.tmp 77) (.tmp 78)⟩,
     ⟨(some 80), none, .act, .bin .sub (.tmp 79) (.const (.int .u8 48))⟩,
     ⟨(some 81), none, .act, .convInt .i64 (.tmp 80)⟩,
     ⟨(some 12), none, .act, .mv (.tmp 81)⟩])
   (.seq (.region [
     ⟨(some 82), none, .act, .mv (.tmp 11)⟩,
     ⟨(some 83), none, .act, .mv (.tmp 82)⟩,
     ⟨(some 84), (some (83, true)), .act, .fieldAddr 2 (.tmp 7)⟩,
     ⟨(some 85), (some (83, true)), .act, .load false 1 (.tmp 84)⟩,
     ⟨(some 86), (some (83, true)), .act, .mv (.tmp 12)⟩,
     ⟨(some 87), (some (83, true)), .act, .bin .sub (.const (.int .i64 9223372036854775807)) (.tmp 86)⟩,
     ⟨(some 88), (some (83, true)), .act, .bin .quo (.tmp 87) (.const (.int .i64 10))⟩,
     ⟨(some 89), (some (83, true)), .act, .bin .leq (.tmp 85) (.tmp 88)⟩,
     ⟨(some 90), none, .act, .pick (.tmp 83) (.tmp 89) (.const (.bool false))⟩,
     ⟨(some 11), none, .act, .mv (.tmp 90)⟩])
   (.seq (.seq (.region [
     ⟨(some 91), none, .act, .mv (.tmp 11)⟩])
   (.cond (.tmp 91)
    (.region [
      ⟨(some 92), none, .act, .fieldAddr 2 (.tmp 7)⟩,
      ⟨(some 93), none, .act, .load false 1 (.tmp 92)⟩,
      ⟨(some 94), none, .act, .bin .mul (.tmp 93) (.const (.int .i64 10))⟩,
      ⟨(some 95), none, .act, .mv (.tmp 12)⟩,
      ⟨(some 96), none, .act, .bin .add (.tmp 94) (.tmp 95)⟩,
      ⟨(some 97), none, .act, .fieldAddr 2 (.tmp 7)⟩,
      ⟨none, none, .act, .store 1 (.tmp 97) (.tmp 96)⟩])
    .skip))
   (.region [
     ⟨(some 98), none, .act, .mv (.tmp 8)⟩,
     ⟨(some 99), none, .act, .bin .add (.tmp 98) (.const (.int .i64 1))⟩,
     ⟨(some 8), none, .act, .mv (.tmp 99)⟩]))))))
def r13l2 : RCode :=
  (.seq (.seq (.region [
    ⟨(some 109), none, .act, .mv (.tmp 8)⟩,
    ⟨(some 110), none, .act, .mv (.tmp 0)⟩,
    ⟨(some 111), none, .act, .lenStr (.tmp 110)⟩,
    ⟨(some 112), none, .act, .bin .lss (.tmp 109) (.tmp 111)⟩])
  (.cond (.tmp 112)
   .skip
   (.exit 5)))
  (.seq (.block 6
   (.seq (.seq (.region [
     ⟨(some 115), none, .act, .mv (.tmp 0)⟩,
     ⟨(some 116), none, .act, .mv (.tmp 8)⟩,
     ⟨(some 117), none, .act, .indexStr (.tmp 115) (.tmp 116)⟩,
     ⟨(some 118), none, .act, .eq false .int (.tmp 117) (.const (.int .u8 39))⟩])
   (.cond (.tmp 118)
    (.seq (.seq (.region [
      ⟨(some 119), none, .act, .mv (.tmp 8)⟩,
      ⟨(some 120), none, .act, .bin .add (.tmp 119) (.const (.int .i64 1))⟩,
      ⟨(some 121), none, .act, .mv (.tmp 0)⟩,
      ⟨(some 122), none, .act, .lenStr (.tmp 121)⟩,
      ⟨(some 123), none, .act, .bin .geq (.tmp 120) (.tmp 122)⟩,
      ⟨(some 124), none, .act, .mv (.tmp 123)⟩,
      ⟨(some 125), (some (124, false)), .act, .mv (.tmp 0)⟩,
      ⟨(some 126), (some (124, false)), .act, .mv (.tmp 8)⟩,
      ⟨(some 127), (some (124, false)), .act, .bin .add (.tmp 126) (.const (.int .i64 1))⟩,
      ⟨(some 128), (some (124, false)), .act, .indexStr (.tmp 125) (.tmp 127)⟩,
      ⟨(some 129), (some (124, false)), .act, .eq true .int (.tmp 128) (.const (.int .u8 39))⟩,
      ⟨(some 130), none, .act, .pick (.tmp 124) (.const (.bool true)) (.tmp 129)⟩])
    (.cond (.tmp 130)
     (.seq (.regionT (.step ⟨(some 131), none, .read, .load true 4 (.tmp 7)⟩ (.step ⟨(some 132), none, .pure, .mv (.tmp 8)⟩ (.step ⟨(some 133), none, .pure, .bin .add (.tmp 132) (.const (.int .i64 1))⟩ (.step ⟨(some 134), none, .pure, .fieldAddr 1 (.tmp 7)⟩ (.alt ⟨(some 135), none, .read, .load false 1 (.tmp 134)⟩ (.step ⟨(some 136), none, .pure, .lenStr (.tmp 135)⟩ (.step ⟨(some 137), none, .pure, .bin .leq (.tmp 136) (.const (.int .i64 1000))⟩ (.alt ⟨none, none, .act, .store 4 (.tmp 4) (.tmp 131)⟩ (.step ⟨(some 5), none, .pure, .mv (.tmp 133)⟩ (.step ⟨(some 6), none, .pure, .mv (.tmp 137)⟩ .done))
    .stop)))
    (.alt ⟨none, none, .act, .store 4 (.tmp 4) (.tmp 131)⟩ (.step ⟨(some 135), none, .read, .load false 1 (.tmp 134)⟩ (.step ⟨(some 136), none, .pure, .lenStr (.tmp 135)⟩ (.step ⟨(some 137), none, .pure, .bin .leq (.tmp 136) (.const (.int .i64 1000))⟩ (.step ⟨(some 5), none, .pure, .mv (.tmp 133)⟩ (.step ⟨(some 6), none, .pure, .mv (.tmp 137)⟩ .done)))))
    .stop)))))))
     .ret)
     .skip))
    (.region [
      ⟨(some 138), none, .act, .mv (.tmp 8)⟩,
      ⟨(some 139), none, .act, .bin .add (.tmp 138) (.const (.int .i64 1))⟩,
      ⟨(some 8), none, .act, .mv (.tmp 139)⟩]))
    .skip))
   (.region [
     ⟨(some 140), none, .pure, .fieldAddr 1 (.tmp 7)⟩,
     ⟨(some 141), none, .read, .load false 1 (.tmp 140)⟩,
     ⟨(some 142), none, .pure, .mv (.tmp 0)⟩,
     ⟨(some 143), none, .pure, .mv (.tmp 8)⟩,
     ⟨(some 144), none, .pure, .mv (.tmp 8)⟩,
     ⟨(some 145), none, .pure, .bin .add (.tmp 144) (.const (.int .i64 1))⟩,
     ⟨(some 146), none, .pure, .sliceStr (.tmp 142) (some (.tmp 143)) (some (.tmp 145))⟩,
     ⟨(some 147), none, .pure, .bin .add (.tmp 141) (.tmp 146)⟩,
     ⟨(some 148), none, .pure, .fieldAddr 1 (.tmp 7)⟩,
     ⟨none, none, .act, .store 1 (.tmp 148) (.tmp 147)⟩])))
  (.region [
    ⟨(some 113), none, .act, .mv (.tmp 8)⟩,
    ⟨(some 114), none, .act, .bin .add (.tmp 113) (.const (.int .i64 1))⟩,
    ⟨(some 8), none, .act, .mv (.tmp 114)⟩])))
def r13l3 : RCode :=
  (.seq (.region [
    ⟨(some 155), none, .act, .bin .lss (.tmp 154) (.tmp 153)⟩])
  (.seq (.cond (.tmp 155)
   .skip
   (.exit 7))
  (.seq (.block 8
   (.seq (.region [
     ⟨(some 156), none, .act, .indexAddr 1 (.tmp 152) (.tmp 154)⟩,
     ⟨(some 157), none, .act, .load false 1 (.tmp 156)⟩,
     ⟨(some 14), none, .act, .mv (.tmp 157)⟩])
   (.seq (.region [
     ⟨(some 158), none, .act, .mv (.tmp 0)⟩,
     ⟨(some 159), none, .act, .lenStr (.tmp 158)⟩,
     ⟨(some 160), none, .act, .mv (.tmp 1)⟩,
     ⟨(some 161), none, .act, .bin .sub (.tmp 159) (.tmp 160)⟩,
     ⟨(some 162), none, .act, .mv (.tmp 14)⟩,
     ⟨(some 163), none, .act, .lenStr (.tmp 162)⟩,
     ⟨(some 164), none, .act, .bin .geq (.tmp 161) (.tmp 163)⟩,
     ⟨(some 165), none, .act, .mv (.tmp 164)⟩,
     ⟨(some 166), (some (165, true)), .act, .mv (.tmp 0)⟩,
     ⟨(some 167), (some (165, true)), .act, .mv (.tmp 1)⟩,
     ⟨(some 168), (some (165, true)), .act, .mv (.tmp 1)⟩,
     ⟨(some 169), (some (165, true)), .act, .mv (.tmp 14)⟩,
     ⟨(some 170), (some (165, true)), .act, .lenStr (.tmp 169)⟩,
     ⟨(some 171), (some (165, true)), .act, .bin .add (.tmp 168) (.tmp 170)⟩,
     ⟨(some 172), (some (165, true)), .act, .sliceStr (.tmp 166) (some (.tmp 167)) (some (.tmp 171))⟩,
     ⟨(some 173), (some (165, true)), .act, .mv (.tmp 14)⟩,
     ⟨(some 174), (some (165, true)), .act, .eq false .str (.tmp 172) (.tmp 173)⟩,
     ⟨(some 175), none, .act, .pick (.tmp 165) (.tmp 174) (.const (.bool false))⟩])
   (.cond (.tmp 175)
    (.seq (.region [
      ⟨(some 176), none, .act, .mv (.tmp 14)⟩,
      ⟨(some 177), none, .act, .fieldAddr 1 (.tmp 7)⟩,
      ⟨none, none, .act, .store 1 (.tmp 177) (.tmp 176)⟩])
    (.seq (.region [
      ⟨(some 178), none, .act, .load true 4 (.tmp 7)⟩,
      ⟨(some 179), none, .act, .mv (.tmp 1)⟩,
      ⟨(some 180), none, .act, .mv (.tmp 14)⟩,
      ⟨(some 181), none, .act, .lenStr (.tmp 180)⟩,
      ⟨(some 182), none, .act, .bin .add (.tmp 179) (.tmp 181)⟩,
      ⟨none, none, .act, .store 4 (.tmp 4) (.tmp 178)⟩,
      ⟨(some 5), none, .act, .mv (.tmp 182)⟩,
      ⟨(some 6), none, .act, .mv (.const (.bool true))⟩])
    .ret))
    .skip))))
  (.region [
    ⟨(some 183), none, .act, .bin .add (.tmp 154) (.const (.int .i64 1))⟩,
    ⟨(some 154), none, .act, .mv (.tmp 183)⟩]))))
/-- plenum/plenumref19.one -/
def r13 : RCode :=
  (.seq (.region [
    ⟨(some 4), none, .act, .alloc [(.int .i64 0), (.string ⟨#[]⟩), (.int .i64 0), (.int .i64 0)]⟩,
    ⟨(some 5), none, .act, .mv (.const (.int .i64 0))⟩,
    ⟨(some 6), none, .act, .mv (.const (.bool false))⟩])
  (.seq (.region [
    ⟨(some 15), none, .act, .mv (.tmp 1)⟩,
    ⟨(some 16), none, .act, .build [(.int .i64 0), (.string ⟨#[]⟩), (.int .i64 0), (.int .i64 0)] [(3, 1, (.tmp 15))]⟩,
    ⟨(some 7), none, .act, .alloc [(.int .i64 0), (.string ⟨#[]⟩), (.int .i64 0), (.int .i64 0)]⟩,
    ⟨none, none, .act, .store 4 (.tmp 7) (.tmp 16)⟩])
  (.seq (.region [
    ⟨(some 17), none, .act, .mv (.tmp 1)⟩,
    ⟨(some 8), none, .act, .mv (.tmp 17)⟩])
  (.seq (.region [
    ⟨(some 18), none, .act, .mv (.tmp 0)⟩,
    ⟨(some 19), none, .act, .mv (.tmp 1)⟩,
    ⟨(some 20), none, .act, .indexStr (.tmp 18) (.tmp 19)⟩,
    ⟨(some 9), none, .act, .mv (.tmp 20)⟩])
  (.seq (.block 0
   (.seq (.region [
     ⟨(some 22), none, .act, .mv (.tmp 9)⟩,
     ⟨(some 23), none, .act, .call 20 [(.tmp 22)]⟩,
     ⟨(some 21), none, .act, .mv (.tmp 23)⟩])
   (.cond (.tmp 21)
    (.seq (.region [
      ⟨(some 24), none, .act, .fieldAddr 0 (.tmp 7)⟩,
      ⟨none, none, .act, .store 1 (.tmp 24) (.const (.int .i64 1))⟩])
    (.seq (.block 1
     (.loop r13l0))
    (.seq (.region [
      ⟨(some 61), none, .act, .load true 4 (.tmp 7)⟩,
      ⟨(some 62), none, .act, .mv (.tmp 8)⟩,
      ⟨none, none, .act, .store 4 (.tmp 4) (.tmp 61)⟩,
      ⟨(some 5), none, .act, .mv (.tmp 62)⟩,
      ⟨(some 6), none, .act, .mv (.const (.bool true))⟩])
    .ret)))
    (.seq (.region [
      ⟨(some 64), none, .act, .mv (.tmp 9)⟩,
      ⟨(some 65), none, .act, .call 21 [(.tmp 64)]⟩,
      ⟨(some 63), none, .act, .mv (.tmp 65)⟩])
    (.cond (.tmp 63)
     (.seq (.region [
       ⟨(some 66), none, .act, .fieldAddr 0 (.tmp 7)⟩,
       ⟨none, none, .act, .store 1 (.tmp 66) (.const (.int .i64 2))⟩])
     (.seq (.region [
       ⟨(some 11), none, .act, .mv (.const (.bool true))⟩])
     (.seq (.block 3
      (.loop r13l1))
     (.seq (.region [
       ⟨(some 100), none, .act, .load true 4 (.tmp 7)⟩,
       ⟨(some 101), none, .act, .mv (.tmp 8)⟩,
       ⟨(some 102), none, .act, .mv (.tmp 11)⟩,
       ⟨none, none, .act, .store 4 (.tmp 4) (.tmp 100)⟩,
       ⟨(some 5), none, .act, .mv (.tmp 101)⟩,
       ⟨(some 6), none, .act, .mv (.tmp 102)⟩])
     .ret))))
     (.seq (.region [
       ⟨(some 104), none, .act, .mv (.tmp 9)⟩,
       ⟨(some 105), none, .act, .eq false .int (.tmp 104) (.const (.int .u8 39))⟩,
       ⟨(some 103), none, .act, .mv (.tmp 105)⟩])
     (.cond (.tmp 103)
      (.seq (.region [
        ⟨(some 106), none, .act, .fieldAddr 0 (.tmp 7)⟩,
        ⟨none, none, .act, .store 1 (.tmp 106) (.const (.int .i64 3))⟩])
      (.seq (.seq (.region [
        ⟨(some 107), none, .act, .mv (.tmp 1)⟩,
        ⟨(some 108), none, .act, .bin .add (.tmp 107) (.const (.int .i64 1))⟩,
        ⟨(some 8), none, .act, .mv (.tmp 108)⟩])
      (.block 5
       (.loop r13l2)))
      (.seq (.region [
        ⟨(some 149), none, .act, .load true 4 (.tmp 7)⟩,
        ⟨(some 150), none, .act, .mv (.tmp 8)⟩,
        ⟨none, none, .act, .store 4 (.tmp 4) (.tmp 149)⟩,
        ⟨(some 5), none, .act, .mv (.tmp 150)⟩,
        ⟨(some 6), none, .act, .mv (.const (.bool false))⟩])
      .ret)))
      .skip)))))))
  (.seq (.region [
    ⟨(some 151), none, .act, .fieldAddr 0 (.tmp 7)⟩,
    ⟨none, none, .act, .store 1 (.tmp 151) (.const (.int .i64 4))⟩])
  (.seq (.seq (.region [
    ⟨(some 152), none, .act, .buildSl 1 [(.string ⟨#[]⟩)] 15 [(0, (.const (.string ⟨#[60, 61]⟩))), (1, (.const (.string ⟨#[62, 61]⟩))), (2, (.const (.string ⟨#[60, 62]⟩))), (3, (.const (.string ⟨#[40]⟩))), (4, (.const (.string ⟨#[41]⟩))), (5, (.const (.string ⟨#[44]⟩))), (6, (.const (.string ⟨#[42]⟩))), (7, (.const (.string ⟨#[43]⟩))), (8, (.const (.string ⟨#[45]⟩))), (9, (.const (.string ⟨#[47]⟩))), (10, (.const (.string ⟨#[37]⟩))), (11, (.const (.string ⟨#[61]⟩))), (12, (.const (.string ⟨#[60]⟩))), (13, (.const (.string ⟨#[62]⟩))), (14, (.const (.string ⟨#[46]⟩)))]⟩,
    ⟨(some 153), none, .act, .len (.tmp 152)⟩,
    ⟨(some 154), none, .act, .mv (.const (.int .i64 0))⟩])
  (.block 7
   (.loop r13l3)))
  (.seq (.region [
    ⟨(some 184), none, .act, .load true 4 (.tmp 7)⟩,
    ⟨(some 185), none, .act, .mv (.tmp 1)⟩,
    ⟨none, none, .act, .store 4 (.tmp 4) (.tmp 184)⟩,
    ⟨(some 5), none, .act, .mv (.tmp 185)⟩,
    ⟨(some 6), none, .act, .mv (.const (.bool false))⟩])
  .ret))))))))
theorem res13 : ∃ c, Try.f13.body = some c ∧ resCode Try.prog 186 c = some r13 := ⟨_, rfl, by kernel_rfl⟩
theorem rr13 : resRes Try.prog Try.f13.results.toList = some [.cell 4 true 4, .tmp 5, .tmp 6] := by kernel_rfl

theorem qword_loop (s : List UInt8) (hs : s.length ≤ 2000000) (b4 b i : Nat) (kd : Int) (k : List RT) (Q : AV → AHeap → Prop) : ∀ (m j : Nat) (acc : List UInt8) (h : AHeap), j + m = s.length → acc.length ≤ j → h b = some (.box (Tok.cells ⟨kd, acc, 0, i⟩)) →
    RRun Try.prog Try.f13 186 k (Env.get [(0, str s), (1, i64 i), (4, ptr b4), (7, ptr b), (8, i64 (j + (wordOf (s.drop j)).length : Nat))]) (h.set b (.box (Tok.cells ⟨kd, acc ++ (wordOf (s.drop j)).map small, 0, i⟩))) Q →
    RRun Try.prog Try.f13 186 (.inLoop r13l0 :: .inBlock 1 :: k) (Env.get [(0, str s), (1, i64 i), (4, ptr b4), (7, ptr b), (8, i64 j)]) h Q := by
  intro m
  induction m with
  | zero =>
    intro j acc h hj hacc hb hk
    have hd : s.drop j = [] := by simp; omega
    rw [hd, show wordOf [] = [] from rfl, List.map_nil, List.append_nil, List.length_nil, Nat.add_zero, AHeap.set_eq h hb] at hk
    refine RRun.inLoop ?_
    repeat' (first | refine S.nilK ?_ | (refine S.op rfl ?_; first | refine S.lenS rfl ?_ | refine R.mv rfl ?_ | refine R.fieldAddr rfl ?_ | refine R.fieldAddrR rfl ?_ | refine R.nilCheck rfl ?_ | refine R.nilCheckR rfl ?_ | refine R.loadR rfl rfl ?_ | refine R.load (by decide) rfl (by (repeat' (first | assumption | exact AHeap.set_same _ _ _ | refine AHeap.get_fresh (by assumption) ?_ | refine AHeap.so ?_ ?_ | exact AHeap.n1 (by assumption) | exact AHeap.n2 (by assumption) | exact AHeap.ne_of (by assumption) (by assumption) | exact AHeap.n4 (by assumption) (by assumption) | exact AHeap.n5 (by assumption) | exact AHeap.n6 (by assumption) | exact AHeap.n7 (by assumption) (by assumption) | exact AHeap.n8 (by assumption) (by assumption))); first | done | fail) rfl ?_ | refine S.addI rfl rfl (by omega) ?_ | refine S.subI rfl rfl (by omega) ?_ | refine S.addU rfl rfl ?_ | refine S.subU rfl rfl ?_ | refine S.addUc rfl (by decide) ?_ | refine S.subUc rfl (by decide) ?_ | refine S.arith rfl rfl rfl ?_ | refine R.pickT rfl rfl ?_ | refine R.pickF rfl rfl ?_ | refine R.len rfl ?_ | refine R.lenA rfl ?_ | refine R.lenStr rfl ?_ | refine S.convIU rfl (by omega) ?_ | refine S.convUI rfl (by omega) ?_ | refine R.convInt rfl ?_ | refine R.not rfl ?_ | refine R.eqPtrNil rfl rfl ?_ | refine R.extract rfl rfl ?_ | refine R.field rfl rfl ?_ | refine R.alloc rfl (fun b hb => ?_) | refine R.box rfl rfl rfl (fun b hb => ?_) | refine R.build rfl rfl ?_ | refine R.buildSl rfl rfl rfl (by decide) ?_ | refine R.toStr rfl ?_ | refine R.convStr rfl ?_ | refine R.minmax rfl ?_ | refine R.makeFunc rfl rfl ?_ | (first | refine S.lss rfl rfl (fun hlt => ?_) (fun hlt => by exfalso; omega) | refine S.lss rfl rfl (fun hlt => by exfalso; omega) (fun hlt => ?_) | refine S.lss rfl rfl (fun hlt => ?_) (fun hlt => ?_)) | (first | refine S.gtr rfl rfl (fun hlt => ?_) (fun hlt => by exfalso; omega) | refine S.gtr rfl rfl (fun hlt => by exfalso; omega) (fun hlt => ?_) | refine S.gtr rfl rfl (fun hlt => ?_) (fun hlt => ?_)) | (first | refine S.leq rfl rfl (fun hlt => ?_) (fun hlt => by exfalso; omega) | refine S.leq rfl rfl (fun hlt => by exfalso; omega) (fun hlt => ?_) | refine S.leq rfl rfl (fun hlt => ?_) (fun hlt => ?_)) | (first | refine S.geq rfl rfl (fun hlt => ?_) (fun hlt => by exfalso; omega) | refine S.geq rfl rfl (fun hlt => by exfalso; omega) (fun hlt => ?_) | refine S.geq rfl rfl (fun hlt => ?_) (fun hlt => ?_)) | (first | refine S.eqInt rfl rfl (fun hlt => ?_) (fun hlt => by exfalso; omega) | refine S.eqInt rfl rfl (fun hlt => by exfalso; omega) (fun hlt => ?_) | refine S.eqInt rfl rfl (fun hlt => ?_) (fun hlt => ?_))) | (refine S.op0 rfl ?_; first | refine S.storeS rfl rfl rfl (by rfl) rfl (by first | decide | exact Nat.le_refl _ | exact Nat.le_of_ble_eq_true rfl) ?_ | refine S.store rfl rfl (by (repeat' (first | assumption | exact AHeap.set_same _ _ _ | refine AHeap.get_fresh (by assumption) ?_ | refine AHeap.so ?_ ?_ | exact AHeap.n1 (by assumption) | exact AHeap.n2 (by assumption) | exact AHeap.ne_of (by assumption) (by assumption) | exact AHeap.n4 (by assumption) (by assumption) | exact AHeap.n5 (by assumption) | exact AHeap.n6 (by assumption) | exact AHeap.n7 (by assumption) (by assumption) | exact AHeap.n8 (by assumption) (by assumption))); first | done | fail) rfl rfl rfl (by rfl) rfl ?_) | refine S.skip rfl ?_ | refine S.skip0 rfl ?_ | refine S.seq ?_ | refine S.region ?_ | refine S.regionT ?_ | refine S.tstep ?_ | refine S.talt ?_ ?_ | exact S.tstop | refine S.tdone ?_ | refine S.condT rfl ?_ | refine S.condF rfl ?_ | refine RRun.skip ?_ | refine RRun.block ?_ | refine RRun.inBlock ?_ | refine RRun.exit rfl ?_)
    exact S.keep [0, 1, 4, 7, 8] rfl hk
  | succ m ih =>
    intro j acc h hj hacc hb hk
    have hlt : j < s.length := by omega
    have hd : s.drop j = s[j] :: s.drop (j + 1) := List.drop_eq_getElem_cons hlt
    have hg : s[((j : Nat) : Int).toNat]? = some s[j] := by simp [hlt]
    have cL := qletter_spec s[j] h
    have cD := qdigit_spec s[j] h
    refine RRun.inLoop ?_
    have stop : isWord s[j] = false → RRun Try.prog Try.f13 186 k (Env.get [(0, str s), (1, i64 i), (4, ptr b4), (7, ptr b), (8, i64 j)]) h Q := fun hw => by
      rw [show wordOf (s.drop j) = [] by rw [hd, wordOf_no _ hw], List.map_nil, List.append_nil, List.length_nil, Nat.add_zero, AHeap.set_eq h hb] at hk
      exact hk
    have go : isWord s[j] = true → RRun Try.prog Try.f13 186 (.inLoop r13l0 :: .inBlock 1 :: k) (Env.get [(0, str s), (1, i64 i), (4, ptr b4), (7, ptr b), (8, i64 (j + 1 : Nat))]) (h.set b (.box (Tok.cells ⟨kd, acc ++ [small s[j]], 0, i⟩))) Q := fun hw => by
      have hw2 : wordOf (s.drop j) = s[j] :: wordOf (s.drop (j + 1)) := by rw [hd, wordOf_yes _ hw]
      refine ih (j + 1) (acc ++ [small s[j]]) _ (by omega) (by simp; omega) (AHeap.set_same _ _ _) ?_
      rw [AHeap.set_set]
      rw [hw2] at hk
      have e1 : j + 1 + (wordOf (s.drop (j + 1))).length = j + (s[j] :: wordOf (s.drop (j + 1))).length := by simp; omega
      have e2 : acc ++ [small s[j]] ++ (wordOf (s.drop (j + 1))).map small = acc ++ (s[j] :: wordOf (s.drop (j + 1))).map small := by simp
      rw [e1, e2]; exact hk
    generalize s[j] = x at cL cD hg stop go
    have hxl := x.toNat_lt
    have fin : isWord x = true → ∀ y : UInt8, y = small x → RRun Try.prog Try.f13 186 (.inLoop r13l0 :: .inBlock 1 :: k) (Env.get [(0, str s), (1, i64 i), (4, ptr b4), (7, ptr b), (8, i64 ((j : Int) + 1))]) (h.set b (.box [i64 kd, str (acc ++ [y]), i64 0, i64 i])) Q := fun hw y hy => by
      subst hy
      rw [show ((j : Int) + 1) = ((j + 1 : Nat) : Int) by omega]
      exact go hw
    cases hL : isLetter x with
    | true =>
      rw [hL] at cL
      have hw : isWord x = true := by simp [isWord, hL]
      by_cases hu : 65 ≤ x.toNat ∧ x.toNat ≤ 90
      · have e1 : IntKind.u8.wrap ((x.toNat : Int) + 32) = ((small x).toNat : Int) := by rw [small_up hu.1 hu.2]; exact wrap_u8 (by omega) (by omega)
        have f1 := fin hw (small x) rfl
        repeat' (first | refine S.nilK ?_ | (refine S.op rfl ?_; first | refine S.lenS rfl ?_ | refine S.indexS rfl rfl (by omega) hg ?_ | refine R.callQ (by decide) rfl cL ?_ | refine R.callQ (by decide) rfl cD ?_ | refine R.bin rfl rfl (show binInt .add .u8 (x.toNat : Int) 32 = some (.int .u8 ((small x).toNat : Int)) from congrArg (fun n => some (Value.int .u8 n)) e1) ?_ | refine S.toStrS (l := [small x]) rfl ?_ | refine S.concat rfl rfl (by simp; omega) ?_ | refine R.mv rfl ?_ | refine R.fieldAddr rfl ?_ | refine R.fieldAddrR rfl ?_ | refine R.nilCheck rfl ?_ | refine R.nilCheckR rfl ?_ | refine R.loadR rfl rfl ?_ | refine R.load (by decide) rfl (by (repeat' (first | assumption | exact AHeap.set_same _ _ _ | refine AHeap.get_fresh (by assumption) ?_ | refine AHeap.so ?_ ?_ | exact AHeap.n1 (by assumption) | exact AHeap.n2 (by assumption) | exact AHeap.ne_of (by assumption) (by assumption) | exact AHeap.n4 (by assumption) (by assumption) | exact AHeap.n5 (by assumption) | exact AHeap.n6 (by assumption) | exact AHeap.n7 (by assumption) (by assumption) | exact AHeap.n8 (by assumption) (by assumption))); first | done | fail) rfl ?_ | refine S.addI rfl rfl (by omega) ?_ | refine S.subI rfl rfl (by omega) ?_ | refine S.addU rfl rfl ?_ | refine S.subU rfl rfl ?_ | refine S.addUc rfl (by decide) ?_ | refine S.subUc rfl (by decide) ?_ | refine S.arith rfl rfl rfl ?_ | refine R.pickT rfl rfl ?_ | refine R.pickF rfl rfl ?_ | refine R.len rfl ?_ | refine R.lenA rfl ?_ | refine R.lenStr rfl ?_ | refine S.convIU rfl (by omega) ?_ | refine S.convUI rfl (by omega) ?_ | refine R.convInt rfl ?_ | refine R.not rfl ?_ | refine R.eqPtrNil rfl rfl ?_ | refine R.extract rfl rfl ?_ | refine R.field rfl rfl ?_ | refine R.alloc rfl (fun b hb => ?_) | refine R.box rfl rfl rfl (fun b hb => ?_) | refine R.build rfl rfl ?_ | refine R.buildSl rfl rfl rfl (by decide) ?_ | refine R.toStr rfl ?_ | refine R.convStr rfl ?_ | refine R.minmax rfl ?_ | refine R.makeFunc rfl rfl ?_ | (first | refine S.lss rfl rfl (fun hlt => ?_) (fun hlt => by exfalso; omega) | refine S.lss rfl rfl (fun hlt => by exfalso; omega) (fun hlt => ?_) | refine S.lss rfl rfl (fun hlt => ?_) (fun hlt => ?_)) | (first | refine S.gtr rfl rfl (fun hlt => ?_) (fun hlt => by exfalso; omega) | refine S.gtr rfl rfl (fun hlt => by exfalso; omega) (fun hlt => ?_) | refine S.gtr rfl rfl (fun hlt => ?_) (fun hlt => ?_)) | (first | refine S.leq rfl rfl (fun hlt => ?_) (fun hlt => by exfalso; omega) | refine S.leq rfl rfl (fun hlt => by exfalso; omega) (fun hlt => ?_) | refine S.leq rfl rfl (fun hlt => ?_) (fun hlt => ?_)) | (first | refine S.geq rfl rfl (fun hlt => ?_) (fun hlt => by exfalso; omega) | refine S.geq rfl rfl (fun hlt => by exfalso; omega) (fun hlt => ?_) | refine S.geq rfl rfl (fun hlt => ?_) (fun hlt => ?_)) | (first | refine S.eqInt rfl rfl (fun hlt => ?_) (fun hlt => by exfalso; omega) | refine S.eqInt rfl rfl (fun hlt => by exfalso; omega) (fun hlt => ?_) | refine S.eqInt rfl rfl (fun hlt => ?_) (fun hlt => ?_))) | (refine S.op0 rfl ?_; first | refine S.storeS rfl rfl rfl (by rfl) rfl (by first | decide | exact Nat.le_refl _ | exact Nat.le_of_ble_eq_true rfl) ?_ | refine S.store rfl rfl (by (repeat' (first | assumption | exact AHeap.set_same _ _ _ | refine AHeap.get_fresh (by assumption) ?_ | refine AHeap.so ?_ ?_ | exact AHeap.n1 (by assumption) | exact AHeap.n2 (by assumption) | exact AHeap.ne_of (by assumption) (by assumption) | exact AHeap.n4 (by assumption) (by assumption) | exact AHeap.n5 (by assumption) | exact AHeap.n6 (by assumption) | exact AHeap.n7 (by assumption) (by assumption) | exact AHeap.n8 (by assumption) (by assumption))); first | done | fail) rfl rfl rfl (by rfl) rfl ?_) | refine S.skip rfl ?_ | refine S.skip0 rfl ?_ | refine S.seq ?_ | refine S.region ?_ | refine S.regionT ?_ | refine S.tstep ?_ | refine S.talt ?_ ?_ | exact S.tstop | refine S.tdone ?_ | refine S.condT rfl ?_ | refine S.condF rfl ?_ | refine RRun.skip ?_ | refine RRun.block ?_ | refine RRun.inBlock ?_ | refine RRun.exit rfl ?_)
        exact S.keep [0, 1, 4, 7, 8] rfl f1
      · have f1 := fin hw x (small_not hu).symm
        repeat' (first | refine S.nilK ?_ | (refine S.op rfl ?_; first | refine S.lenS rfl ?_ | refine S.indexS rfl rfl (by omega) hg ?_ | refine R.callQ (by decide) rfl cL ?_ | refine R.callQ (by decide) rfl cD ?_ | refine S.toStrS (l := [x]) rfl ?_ | refine S.concat rfl rfl (by simp; omega) ?_ | refine R.mv rfl ?_ | refine R.fieldAddr rfl ?_ | refine R.fieldAddrR rfl ?_ | refine R.nilCheck rfl ?_ | refine R.nilCheckR rfl ?_ | refine R.loadR rfl rfl ?_ | refine R.load (by decide) rfl (by (repeat' (first | assumption | exact AHeap.set_same _ _ _ | refine AHeap.get_fresh (by assumption) ?_ | refine AHeap.so ?_ ?_ | exact AHeap.n1 (by assumption) | exact AHeap.n2 (by assumption) | exact AHeap.ne_of (by assumption) (by assumption) | exact AHeap.n4 (by assumption) (by assumption) | exact AHeap.n5 (by assumption) | exact AHeap.n6 (by assumption) | exact AHeap.n7 (by assumption) (by assumption) | exact AHeap.n8 (by assumption) (by assumption))); first | done | fail) rfl ?_ | refine S.addI rfl rfl (by omega) ?_ | refine S.subI rfl rfl (by omega) ?_ | refine S.addU rfl rfl ?_ | refine S.subU rfl rfl ?_ | refine S.addUc rfl (by decide) ?_ | refine S.subUc rfl (by decide) ?_ | refine S.arith rfl rfl rfl ?_ | refine R.pickT rfl rfl ?_ | refine R.pickF rfl rfl ?_ | refine R.len rfl ?_ | refine R.lenA rfl ?_ | refine R.lenStr rfl ?_ | refine S.convIU rfl (by omega) ?_ | refine S.convUI rfl (by omega) ?_ | refine R.convInt rfl ?_ | refine R.not rfl ?_ | refine R.eqPtrNil rfl rfl ?_ | refine R.extract rfl rfl ?_ | refine R.field rfl rfl ?_ | refine R.alloc rfl (fun b hb => ?_) | refine R.box rfl rfl rfl (fun b hb => ?_) | refine R.build rfl rfl ?_ | refine R.buildSl rfl rfl rfl (by decide) ?_ | refine R.toStr rfl ?_ | refine R.convStr rfl ?_ | refine R.minmax rfl ?_ | refine R.makeFunc rfl rfl ?_ | (first | refine S.lss rfl rfl (fun hlt => ?_) (fun hlt => by exfalso; omega) | refine S.lss rfl rfl (fun hlt => by exfalso; omega) (fun hlt => ?_) | refine S.lss rfl rfl (fun hlt => ?_) (fun hlt => ?_)) | (first | refine S.gtr rfl rfl (fun hlt => ?_) (fun hlt => by exfalso; omega) | refine S.gtr rfl rfl (fun hlt => by exfalso; omega) (fun hlt => ?_) | refine S.gtr rfl rfl (fun hlt => ?_) (fun hlt => ?_)) | (first | refine S.leq rfl rfl (fun hlt => ?_) (fun hlt => by exfalso; omega) | refine S.leq rfl rfl (fun hlt => by exfalso; omega) (fun hlt => ?_) | refine S.leq rfl rfl (fun hlt => ?_) (fun hlt => ?_)) | (first | refine S.geq rfl rfl (fun hlt => ?_) (fun hlt => by exfalso; omega) | refine S.geq rfl rfl (fun hlt => by exfalso; omega) (fun hlt => ?_) | refine S.geq rfl rfl (fun hlt => ?_) (fun hlt => ?_)) | (first | refine S.eqInt rfl rfl (fun hlt => ?_) (fun hlt => by exfalso; omega) | refine S.eqInt rfl rfl (fun hlt => by exfalso; omega) (fun hlt => ?_) | refine S.eqInt rfl rfl (fun hlt => ?_) (fun hlt => ?_))) | (refine S.op0 rfl ?_; first | refine S.storeS rfl rfl rfl (by rfl) rfl (by first | decide | exact Nat.le_refl _ | exact Nat.le_of_ble_eq_true rfl) ?_ | refine S.store rfl rfl (by (repeat' (first | assumption | exact AHeap.set_same _ _ _ | refine AHeap.get_fresh (by assumption) ?_ | refine AHeap.so ?_ ?_ | exact AHeap.n1 (by assumption) | exact AHeap.n2 (by assumption) | exact AHeap.ne_of (by assumption) (by assumption) | exact AHeap.n4 (by assumption) (by assumption) | exact AHeap.n5 (by assumption) | exact AHeap.n6 (by assumption) | exact AHeap.n7 (by assumption) (by assumption) | exact AHeap.n8 (by assumption) (by assumption))); first | done | fail) rfl rfl rfl (by rfl) rfl ?_) | refine S.skip rfl ?_ | refine S.skip0 rfl ?_ | refine S.seq ?_ | refine S.region ?_ | refine S.regionT ?_ | refine S.tstep ?_ | refine S.talt ?_ ?_ | exact S.tstop | refine S.tdone ?_ | refine S.condT rfl ?_ | refine S.condF rfl ?_ | refine RRun.skip ?_ | refine RRun.block ?_ | refine RRun.inBlock ?_ | refine RRun.exit rfl ?_)
        all_goals exact S.keep [0, 1, 4, 7, 8] rfl f1
    | false =>
      rw [hL] at cL
      cases hD : isDigit x with
      | true =>
        rw [hD] at cD
        have hw : isWord x = true := by simp [isWord, hL, hD]
        have hu : ¬ (65 ≤ x.toNat ∧ x.toNat ≤ 90) := by have := isDigit_spec hD; omega
        have f1 := fin hw x (small_not hu).symm
        repeat' (first | refine S.nilK ?_ | (refine S.op rfl ?_; first | refine S.lenS rfl ?_ | refine S.indexS rfl rfl (by omega) hg ?_ | refine R.callQ (by decide) rfl cL ?_ | refine R.callQ (by decide) rfl cD ?_ | refine S.toStrS (l := [x]) rfl ?_ | refine S.concat rfl rfl (by simp; omega) ?_ | refine R.mv rfl ?_ | refine R.fieldAddr rfl ?_ | refine R.fieldAddrR rfl ?_ | refine R.nilCheck rfl ?_ | refine R.nilCheckR rfl ?_ | refine R.loadR rfl rfl ?_ | refine R.load (by decide) rfl (by (repeat' (first | assumption | exact AHeap.set_same _ _ _ | refine AHeap.get_fresh (by assumption) ?_ | refine AHeap.so ?_ ?_ | exact AHeap.n1 (by assumption) | exact AHeap.n2 (by assumption) | exact AHeap.ne_of (by assumption) (by assumption) | exact AHeap.n4 (by assumption) (by assumption) | exact AHeap.n5 (by assumption) | exact AHeap.n6 (by assumption) | exact AHeap.n7 (by assumption) (by assumption) | exact AHeap.n8 (by assumption) (by assumption))); first | done | fail) rfl ?_ | refine S.addI rfl rfl (by omega) ?_ | refine S.subI rfl rfl (by omega) ?_ | refine S.addU rfl rfl ?_ | refine S.subU rfl rfl ?_ | refine S.addUc rfl (by decide) ?_ | refine S.subUc rfl (by decide) ?_ | refine S.arith rfl rfl rfl ?_ | refine R.pickT rfl rfl ?_ | refine R.pickF rfl rfl ?_ | refine R.len rfl ?_ | refine R.lenA rfl ?_ | refine R.lenStr rfl ?_ | refine S.convIU rfl (by omega) ?_ | refine S.convUI rfl (by omega) ?_ | refine R.convInt rfl ?_ | refine R.not rfl ?_ | refine R.eqPtrNil rfl rfl ?_ | refine R.extract rfl rfl ?_ | refine R.field rfl rfl ?_ | refine R.alloc rfl (fun b hb => ?_) | refine R.box rfl rfl rfl (fun b hb => ?_) | refine R.build rfl rfl ?_ | refine R.buildSl rfl rfl rfl (by decide) ?_ | refine R.toStr rfl ?_ | refine R.convStr rfl ?_ | refine R.minmax rfl ?_ | refine R.makeFunc rfl rfl ?_ | (first | refine S.lss rfl rfl (fun hlt => ?_) (fun hlt => by exfalso; omega) | refine S.lss rfl rfl (fun hlt => by exfalso; omega) (fun hlt => ?_) | refine S.lss rfl rfl (fun hlt => ?_) (fun hlt => ?_)) | (first | refine S.gtr rfl rfl (fun hlt => ?_) (fun hlt => by exfalso; omega) | refine S.gtr rfl rfl (fun hlt => by exfalso; omega) (fun hlt => ?_) | refine S.gtr rfl rfl (fun hlt => ?_) (fun hlt => ?_)) | (first | refine S.leq rfl rfl (fun hlt => ?_) (fun hlt => by exfalso; omega) | refine S.leq rfl rfl (fun hlt => by exfalso; omega) (fun hlt => ?_) | refine S.leq rfl rfl (fun hlt => ?_) (fun hlt => ?_)) | (first | refine S.geq rfl rfl (fun hlt => ?_) (fun hlt => by exfalso; omega) | refine S.geq rfl rfl (fun hlt => by exfalso; omega) (fun hlt => ?_) | refine S.geq rfl rfl (fun hlt => ?_) (fun hlt => ?_)) | (first | refine S.eqInt rfl rfl (fun hlt => ?_) (fun hlt => by exfalso; omega) | refine S.eqInt rfl rfl (fun hlt => by exfalso; omega) (fun hlt => ?_) | refine S.eqInt rfl rfl (fun hlt => ?_) (fun hlt => ?_))) | (refine S.op0 rfl ?_; first | refine S.storeS rfl rfl rfl (by rfl) rfl (by first | decide | exact Nat.le_refl _ | exact Nat.le_of_ble_eq_true rfl) ?_ | refine S.store rfl rfl (by (repeat' (first | assumption | exact AHeap.set_same _ _ _ | refine AHeap.get_fresh (by assumption) ?_ | refine AHeap.so ?_ ?_ | exact AHeap.n1 (by assumption) | exact AHeap.n2 (by assumption) | exact AHeap.ne_of (by assumption) (by assumption) | exact AHeap.n4 (by assumption) (by assumption) | exact AHeap.n5 (by assumption) | exact AHeap.n6 (by assumption) | exact AHeap.n7 (by assumption) (by assumption) | exact AHeap.n8 (by assumption) (by assumption))); first | done | fail) rfl rfl rfl (by rfl) rfl ?_) | refine S.skip rfl ?_ | refine S.skip0 rfl ?_ | refine S.seq ?_ | refine S.region ?_ | refine S.regionT ?_ | refine S.tstep ?_ | refine S.talt ?_ ?_ | exact S.tstop | refine S.tdone ?_ | refine S.condT rfl ?_ | refine S.condF rfl ?_ | refine RRun.skip ?_ | refine RRun.block ?_ | refine RRun.inBlock ?_ | refine RRun.exit rfl ?_)
        all_goals exact S.keep [0, 1, 4, 7, 8] rfl f1
      | false =>
        rw [hD] at cD
        have f1 := stop (by simp [isWord, hL, hD])
        repeat' (first | refine S.nilK ?_ | (refine S.op rfl ?_; first | refine S.lenS rfl ?_ | refine S.indexS rfl rfl (by omega) hg ?_ | refine R.callQ (by decide) rfl cL ?_ | refine R.callQ (by decide) rfl cD ?_ | refine R.mv rfl ?_ | refine R.fieldAddr rfl ?_ | refine R.fieldAddrR rfl ?_ | refine R.nilCheck rfl ?_ | refine R.nilCheckR rfl ?_ | refine R.loadR rfl rfl ?_ | refine R.load (by decide) rfl (by (repeat' (first | assumption | exact AHeap.set_same _ _ _ | refine AHeap.get_fresh (by assumption) ?_ | refine AHeap.so ?_ ?_ | exact AHeap.n1 (by assumption) | exact AHeap.n2 (by assumption) | exact AHeap.ne_of (by assumption) (by assumption) | exact AHeap.n4 (by assumption) (by assumption) | exact AHeap.n5 (by assumption) | exact AHeap.n6 (by assumption) | exact AHeap.n7 (by assumption) (by assumption) | exact AHeap.n8 (by assumption) (by assumption))); first | done | fail) rfl ?_ | refine S.addI rfl rfl (by omega) ?_ | refine S.subI rfl rfl (by omega) ?_ | refine S.addU rfl rfl ?_ | refine S.subU rfl rfl ?_ | refine S.addUc rfl (by decide) ?_ | refine S.subUc rfl (by decide) ?_ | refine S.arith rfl rfl rfl ?_ | refine R.pickT rfl rfl ?_ | refine R.pickF rfl rfl ?_ | refine R.len rfl ?_ | refine R.lenA rfl ?_ | refine R.lenStr rfl ?_ | refine S.convIU rfl (by omega) ?_ | refine S.convUI rfl (by omega) ?_ | refine R.convInt rfl ?_ | refine R.not rfl ?_ | refine R.eqPtrNil rfl rfl ?_ | refine R.extract rfl rfl ?_ | refine R.field rfl rfl ?_ | refine R.alloc rfl (fun b hb => ?_) | refine R.box rfl rfl rfl (fun b hb => ?_) | refine R.build rfl rfl ?_ | refine R.buildSl rfl rfl rfl (by decide) ?_ | refine R.toStr rfl ?_ | refine R.convStr rfl ?_ | refine R.minmax rfl ?_ | refine R.makeFunc rfl rfl ?_ | (first | refine S.lss rfl rfl (fun hlt => ?_) (fun hlt => by exfalso; omega) | refine S.lss rfl rfl (fun hlt => by exfalso; omega) (fun hlt => ?_) | refine S.lss rfl rfl (fun hlt => ?_) (fun hlt => ?_)) | (first | refine S.gtr rfl rfl (fun hlt => ?_) (fun hlt => by exfalso; omega) | refine S.gtr rfl rfl (fun hlt => by exfalso; omega) (fun hlt => ?_) | refine S.gtr rfl rfl (fun hlt => ?_) (fun hlt => ?_)) | (first | refine S.leq rfl rfl (fun hlt => ?_) (fun hlt => by exfalso; omega) | refine S.leq rfl rfl (fun hlt => by exfalso; omega) (fun hlt => ?_) | refine S.leq rfl rfl (fun hlt => ?_) (fun hlt => ?_)) | (first | refine S.geq rfl rfl (fun hlt => ?_) (fun hlt => by exfalso; omega) | refine S.geq rfl rfl (fun hlt => by exfalso; omega) (fun hlt => ?_) | refine S.geq rfl rfl (fun hlt => ?_) (fun hlt => ?_)) | (first | refine S.eqInt rfl rfl (fun hlt => ?_) (fun hlt => by exfalso; omega) | refine S.eqInt rfl rfl (fun hlt => by exfalso; omega) (fun hlt => ?_) | refine S.eqInt rfl rfl (fun hlt => ?_) (fun hlt => ?_))) | (refine S.op0 rfl ?_; first | refine S.storeS rfl rfl rfl (by rfl) rfl (by first | decide | exact Nat.le_refl _ | exact Nat.le_of_ble_eq_true rfl) ?_ | refine S.store rfl rfl (by (repeat' (first | assumption | exact AHeap.set_same _ _ _ | refine AHeap.get_fresh (by assumption) ?_ | refine AHeap.so ?_ ?_ | exact AHeap.n1 (by assumption) | exact AHeap.n2 (by assumption) | exact AHeap.ne_of (by assumption) (by assumption) | exact AHeap.n4 (by assumption) (by assumption) | exact AHeap.n5 (by assumption) | exact AHeap.n6 (by assumption) | exact AHeap.n7 (by assumption) (by assumption) | exact AHeap.n8 (by assumption) (by assumption))); first | done | fail) rfl rfl rfl (by rfl) rfl ?_) | refine S.skip rfl ?_ | refine S.skip0 rfl ?_ | refine S.seq ?_ | refine S.region ?_ | refine S.regionT ?_ | refine S.tstep ?_ | refine S.talt ?_ ?_ | exact S.tstop | refine S.tdone ?_ | refine S.condT rfl ?_ | refine S.condF rfl ?_ | refine RRun.skip ?_ | refine RRun.block ?_ | refine RRun.inBlock ?_ | refine RRun.exit rfl ?_)
        exact S.keep [0, 1, 4, 7, 8] rfl f1

end Go.Proofs.Ytcjcmegkfplnkaa
