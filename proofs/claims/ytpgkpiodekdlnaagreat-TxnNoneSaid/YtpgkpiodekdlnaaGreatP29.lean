/-
  TxnNone answers true for every input: an engine that nobody made does nothing
-/
import Derived.Test.YtpgkpiodekdlnaaGreatP23
import Derived.Test.YtpgkpiodekdlnaaGreatP24
import Derived.Test.YtpgkpiodekdlnaaGreatRows
import Derived.Test.YtpgkpiodekdlnaaGreatP26
set_option linter.unusedVariables false
set_option linter.unusedSimpArgs false
namespace Go.Proofs.YtpgkpiodekdlnaaGreat
open Go.Av
def r4 : RCode :=
  (.seq (.region [
    ⟨(some 0), none, .act, .mv (.const (.bool false))⟩])
  (.seq (.region [
    ⟨(some 8), none, .act, .call 18 [(.const (.slice none 0 0))]⟩,
    ⟨(some 1), none, .act, .mv (.tmp 8)⟩])
  (.seq (.region [
    ⟨(some 10), none, .act, .mv (.tmp 1)⟩,
    ⟨(some 11), none, .act, .build [(.int .i64 0), (.int .i64 0), (.slice none 0 0), (.bool false), (.slice none 0 0), (.string ⟨#[]⟩), (.int .i64 0), (.string ⟨#[]⟩), (.slice none 0 0), (.int .i64 0), (.slice none 0 0)] [(0, 1, (.const (.int .i64 2)))]⟩,
    ⟨(some 12), none, .act, .call 11 [(.tmp 10), (.const (.int .u64 1)), (.tmp 11)]⟩,
    ⟨(some 9), none, .act, .mv (.tmp 12)⟩,
    ⟨(some 13), none, .act, .extract (.tmp 9) 0⟩,
    ⟨(some 14), none, .act, .extract (.tmp 9) 1⟩,
    ⟨(some 2), none, .act, .alloc [(.int .i64 0), (.slice none 0 0), (.slice none 0 0), (.int .u64 0)]⟩,
    ⟨none, none, .act, .store 4 (.tmp 2) (.tmp 13)⟩,
    ⟨(some 3), none, .act, .mv (.tmp 14)⟩])
  (.seq (.region [
    ⟨(some 16), none, .act, .mv (.tmp 1)⟩,
    ⟨(some 17), none, .act, .build [(.int .i64 0), (.int .i64 0), (.slice none 0 0), (.bool false), (.slice none 0 0), (.string ⟨#[]⟩), (.int .i64 0), (.string ⟨#[]⟩), (.slice none 0 0), (.int .i64 0), (.slice none 0 0)] [(0, 1, (.const (.int .i64 1))), (1, 1, (.const (.int .i64 3)))]⟩,
    ⟨(some 18), none, .act, .call 11 [(.tmp 16), (.const (.int .u64 1)), (.tmp 17)]⟩,
    ⟨(some 15), none, .act, .mv (.tmp 18)⟩,
    ⟨(some 19), none, .act, .extract (.tmp 15) 0⟩,
    ⟨(some 20), none, .act, .extract (.tmp 15) 1⟩,
    ⟨(some 4), none, .act, .alloc [(.int .i64 0), (.slice none 0 0), (.slice none 0 0), (.int .u64 0)]⟩,
    ⟨none, none, .act, .store 4 (.tmp 4) (.tmp 19)⟩,
    ⟨(some 5), none, .act, .mv (.tmp 20)⟩])
  (.seq (.region [
    ⟨(some 22), none, .act, .mv (.tmp 1)⟩,
    ⟨(some 23), none, .act, .build [(.int .i64 0), (.int .i64 0), (.slice none 0 0), (.bool false), (.slice none 0 0), (.string ⟨#[]⟩), (.int .i64 0), (.string ⟨#[]⟩), (.slice none 0 0), (.int .i64 0), (.slice none 0 0)] [(0, 1, (.const (.int .i64 4)))]⟩,
    ⟨(some 24), none, .act, .call 11 [(.tmp 22), (.const (.int .u64 1)), (.tmp 23)]⟩,
    ⟨(some 21), none, .act, .mv (.tmp 24)⟩,
    ⟨(some 25), none, .act, .extract (.tmp 21) 0⟩,
    ⟨(some 26), none, .act, .extract (.tmp 21) 1⟩,
    ⟨(some 6), none, .act, .alloc [(.int .i64 0), (.slice none 0 0), (.slice none 0 0), (.int .u64 0)]⟩,
    ⟨none, none, .act, .store 4 (.tmp 6) (.tmp 25)⟩,
    ⟨(some 7), none, .act, .mv (.tmp 26)⟩])
  (.seq (.region [
    ⟨(some 27), none, .act, .mv (.tmp 3)⟩,
    ⟨(some 28), none, .act, .mv (.tmp 27)⟩,
    ⟨(some 29), (some (28, true)), .act, .fieldAddr 0 (.tmp 2)⟩,
    ⟨(some 30), (some (28, true)), .act, .load false 1 (.tmp 29)⟩,
    ⟨(some 31), (some (28, true)), .act, .eq false .int (.tmp 30) (.const (.int .i64 150))⟩,
    ⟨(some 32), none, .act, .pick (.tmp 28) (.tmp 31) (.const (.bool false))⟩,
    ⟨(some 33), none, .act, .mv (.tmp 32)⟩,
    ⟨(some 34), (some (33, true)), .act, .mv (.tmp 5)⟩,
    ⟨(some 35), none, .act, .pick (.tmp 33) (.tmp 34) (.const (.bool false))⟩,
    ⟨(some 36), none, .act, .mv (.tmp 35)⟩,
    ⟨(some 37), (some (36, true)), .act, .mv (.tmp 7)⟩,
    ⟨(some 38), none, .act, .pick (.tmp 36) (.tmp 37) (.const (.bool false))⟩,
    ⟨(some 39), none, .act, .mv (.tmp 38)⟩,
    ⟨(some 40), (some (39, true)), .act, .fieldAddr 0 (.tmp 6)⟩,
    ⟨(some 41), (some (39, true)), .act, .load false 1 (.tmp 40)⟩,
    ⟨(some 42), (some (39, true)), .act, .eq false .int (.tmp 41) (.const (.int .i64 0))⟩,
    ⟨(some 43), none, .act, .pick (.tmp 39) (.tmp 42) (.const (.bool false))⟩,
    ⟨(some 44), none, .act, .mv (.tmp 43)⟩,
    ⟨(some 45), (some (44, true)), .act, .fieldAddr 3 (.tmp 6)⟩,
    ⟨(some 46), (some (44, true)), .act, .load false 1 (.tmp 45)⟩,
    ⟨(some 47), (some (44, true)), .act, .eq false .int (.tmp 46) (.const (.int .u64 1))⟩,
    ⟨(some 48), none, .act, .pick (.tmp 44) (.tmp 47) (.const (.bool false))⟩,
    ⟨(some 0), none, .act, .mv (.tmp 48)⟩])
  .ret))))))
theorem res4 : ∃ c, Tryz.f4.body = some c ∧ resCode Tryz.prog 49 c = some r4 := ⟨_, rfl, by kernel_rfl⟩
theorem rr4 : resRes Tryz.prog Tryz.f4.results.toList = some [.tmp 0] := by kernel_rfl
theorem fok4 : FOk Tryz.prog 4 ⟨r4, 49, [.tmp 0]⟩ := by
  obtain ⟨c, h1, h2⟩ := res4
  exact ⟨by kernel_rfl, _, c, Tryz.func4, h1, Tryz.ntmps4, ⟨_, h2⟩, rr4⟩
def md18 : Nat → Bool := fun id => [4].contains id
def r18l0 : RCode :=
  (.seq (.region [
    ⟨(some 13), none, .act, .bin .lss (.tmp 12) (.tmp 11)⟩])
  (.seq (.cond (.tmp 13)
   .skip
   (.exit 0))
  (.seq (.block 1
   (.regionT (.step ⟨(some 14), none, .pure, .mv (.tmp 3)⟩ (.step ⟨(some 15), none, .pure, .mv (.tmp 3)⟩ (.step ⟨(some 16), none, .pure, .nilCheck (.tmp 15)⟩ (.step ⟨(some 17), none, .pure, .fieldAddr 2 (.tmp 16)⟩ (.alt ⟨(some 18), none, .read, .load false 1 (.tmp 17)⟩ (.alt ⟨(some 19), none, .act, .call 38 []⟩ (.step ⟨(some 20), none, .pure, .buildSl 1 [(.pointer none)] 1 [(0, (.tmp 19))]⟩ (.alt ⟨(some 21), none, .act, .append 1 8 [(.pointer none)] (.tmp 18) (.tmp 20)⟩ (.step ⟨(some 22), none, .pure, .nilCheck (.tmp 14)⟩ (.step ⟨(some 23), none, .pure, .fieldAddr 2 (.tmp 22)⟩ (.alt ⟨none, none, .act, .store 1 (.tmp 23) (.tmp 21)⟩ .done
    .stop)))
    .stop))
    .stop)
    (.alt ⟨(some 19), none, .act, .call 38 []⟩ (.step ⟨(some 18), none, .read, .load false 1 (.tmp 17)⟩ (.step ⟨(some 20), none, .pure, .buildSl 1 [(.pointer none)] 1 [(0, (.tmp 19))]⟩ (.alt ⟨(some 21), none, .act, .append 1 8 [(.pointer none)] (.tmp 18) (.tmp 20)⟩ (.step ⟨(some 22), none, .pure, .nilCheck (.tmp 14)⟩ (.step ⟨(some 23), none, .pure, .fieldAddr 2 (.tmp 22)⟩ (.alt ⟨none, none, .act, .store 1 (.tmp 23) (.tmp 21)⟩ .done
    .stop)))
    .stop)))
    .stop))))))))
  (.region [
    ⟨(some 24), none, .act, .bin .add (.tmp 12) (.const (.int .i64 1))⟩,
    ⟨(some 12), none, .act, .mv (.tmp 24)⟩]))))
def r18 : RCode :=
  (.seq (.region [
    ⟨(some 2), none, .act, .mv (.const (.pointer none))⟩])
  (.seq (.region [
    ⟨(some 4), none, .act, .mv (.tmp 0)⟩,
    ⟨(some 5), none, .act, .call 36 [(.tmp 4)]⟩,
    ⟨(some 6), none, .act, .call 37 []⟩,
    ⟨(some 7), none, .act, .build [(.pointer none), (.pointer none), (.slice none 0 0)] [(0, 1, (.tmp 5)), (1, 1, (.tmp 6))]⟩,
    ⟨(some 8), none, .act, .box (.tmp 7)⟩,
    ⟨(some 3), none, .act, .mv (.tmp 8)⟩])
  (.seq (.seq (.region [
    ⟨(some 9), none, .act, .mv (.tmp 0)⟩,
    ⟨(some 10), none, .act, .len (.tmp 9)⟩,
    ⟨(some 11), none, .act, .bin .add (.tmp 10) (.const (.int .i64 1))⟩,
    ⟨(some 12), none, .act, .mv (.const (.int .i64 0))⟩])
  (.block 0
   (.loop r18l0)))
  (.seq (.region [
    ⟨(some 25), none, .act, .mv (.tmp 3)⟩,
    ⟨(some 2), none, .act, .mv (.tmp 25)⟩])
  .ret))))
theorem res18 : ∃ c, Tryz.f18.body = some c ∧ resCodeM Tryz.prog 26 md18 c = some r18 := ⟨_, rfl, by kernel_rfl⟩
theorem rr18 : resRes Tryz.prog Tryz.f18.results.toList = some [.tmp 2] := by kernel_rfl
theorem fok18 : FOk Tryz.prog 18 ⟨r18, 26, [.tmp 2]⟩ := by
  obtain ⟨c, h1, h2⟩ := res18
  exact ⟨by kernel_rfl, _, c, Tryz.func18, h1, Tryz.ntmps18, ⟨_, h2⟩, rr18⟩
def r36l0 : RCode :=
  (.seq (.region [
    ⟨(some 11), none, .act, .bin .lss (.tmp 10) (.tmp 9)⟩])
  (.seq (.cond (.tmp 11)
   .skip
   (.exit 0))
  (.seq (.block 1
   (.seq (.region [
     ⟨(some 12), none, .act, .mv (.tmp 10)⟩,
     ⟨(some 4), none, .act, .mv (.tmp 12)⟩])
   (.region [
     ⟨(some 13), none, .act, .mv (.tmp 3)⟩,
     ⟨(some 14), none, .act, .mv (.tmp 4)⟩,
     ⟨(some 15), none, .act, .mv (.tmp 3)⟩,
     ⟨(some 16), none, .act, .mv (.tmp 4)⟩,
     ⟨(some 17), none, .act, .indexAddr 1 (.tmp 15) (.tmp 16)⟩,
     ⟨(some 18), none, .act, .load false 1 (.tmp 17)⟩,
     ⟨(some 19), none, .act, .call 34 [(.tmp 18)]⟩,
     ⟨(some 20), none, .act, .indexAddr 1 (.tmp 13) (.tmp 14)⟩,
     ⟨none, none, .act, .store 1 (.tmp 20) (.tmp 19)⟩])))
  (.region [
    ⟨(some 21), none, .act, .bin .add (.tmp 10) (.const (.int .i64 1))⟩,
    ⟨(some 10), none, .act, .mv (.tmp 21)⟩]))))
def r36 : RCode :=
  (.seq (.region [
    ⟨(some 2), none, .act, .mv (.const (.pointer none))⟩])
  (.seq (.region [
    ⟨(some 5), none, .act, .mv (.tmp 0)⟩,
    ⟨(some 6), none, .act, .call 65 [(.tmp 5)]⟩,
    ⟨(some 7), none, .act, .call 64 [(.tmp 6), (.func 66)]⟩,
    ⟨(some 3), none, .act, .mv (.tmp 7)⟩])
  (.seq (.seq (.region [
    ⟨(some 8), none, .act, .mv (.tmp 3)⟩,
    ⟨(some 9), none, .act, .len (.tmp 8)⟩,
    ⟨(some 10), none, .act, .mv (.const (.int .i64 0))⟩])
  (.block 0
   (.loop r36l0)))
  (.seq (.region [
    ⟨(some 22), none, .act, .mv (.tmp 3)⟩,
    ⟨(some 23), none, .act, .makeMap⟩,
    ⟨(some 24), none, .act, .build [(.slice none 0 0), (.map none), (.slice none 0 0)] [(0, 1, (.tmp 22)), (1, 1, (.tmp 23))]⟩,
    ⟨(some 25), none, .act, .box (.tmp 24)⟩,
    ⟨(some 2), none, .act, .mv (.tmp 25)⟩])
  .ret))))
theorem res36 : ∃ c, Tryz.f36.body = some c ∧ resCode Tryz.prog 26 c = some r36 := ⟨_, rfl, by kernel_rfl⟩
theorem rr36 : resRes Tryz.prog Tryz.f36.results.toList = some [.tmp 2] := by kernel_rfl
theorem fok36 : FOk Tryz.prog 36 ⟨r36, 26, [.tmp 2]⟩ := by
  obtain ⟨c, h1, h2⟩ := res36
  exact ⟨by kernel_rfl, _, c, Tryz.func36, h1, Tryz.ntmps36, ⟨_, h2⟩, rr36⟩
def r65 : RCode :=
  (.seq (.region [
    ⟨(some 1), none, .act, .box (.tmp 0)⟩,
    ⟨(some 2), none, .act, .mv (.const .nilFunc)⟩])
  (.seq (.region [
    ⟨(some 3), none, .act, .makeFunc (.func 87) [] [(.tmp 1)]⟩,
    ⟨(some 2), none, .act, .mv (.tmp 3)⟩])
  .ret))
theorem res65 : ∃ c, Tryz.f65.body = some c ∧ resCode Tryz.prog 4 c = some r65 := ⟨_, rfl, by kernel_rfl⟩
theorem rr65 : resRes Tryz.prog Tryz.f65.results.toList = some [.tmp 2] := by kernel_rfl
theorem fok65 : FOk Tryz.prog 65 ⟨r65, 4, [.tmp 2]⟩ := by
  obtain ⟨c, h1, h2⟩ := res65
  exact ⟨by kernel_rfl, _, c, Tryz.func65, h1, Tryz.ntmps65, ⟨_, h2⟩, rr65⟩
def r64 : RCode :=
  (.seq (.region [
    ⟨(some 4), none, .act, .mv (.const (.slice none 0 0))⟩])
  (.seq (.region [
    ⟨(some 6), none, .act, .mv (.tmp 0)⟩,
    ⟨(some 7), none, .act, .call 85 [(.tmp 6)]⟩,
    ⟨(some 5), none, .act, .mv (.tmp 7)⟩])
  (.seq (.region [
    ⟨(some 8), none, .act, .mv (.tmp 5)⟩,
    ⟨(some 9), none, .act, .mv (.tmp 1)⟩,
    ⟨(some 10), none, .act, .call 86 [(.tmp 8), (.tmp 9)]⟩])
  (.seq (.region [
    ⟨(some 11), none, .act, .mv (.tmp 5)⟩,
    ⟨(some 4), none, .act, .mv (.tmp 11)⟩])
  .ret))))
theorem res64 : ∃ c, Tryz.f64.body = some c ∧ resCode Tryz.prog 12 c = some r64 := ⟨_, rfl, by kernel_rfl⟩
theorem rr64 : resRes Tryz.prog Tryz.f64.results.toList = some [.tmp 4] := by kernel_rfl
theorem fok64 : FOk Tryz.prog 64 ⟨r64, 12, [.tmp 4]⟩ := by
  obtain ⟨c, h1, h2⟩ := res64
  exact ⟨by kernel_rfl, _, c, Tryz.func64, h1, Tryz.ntmps64, ⟨_, h2⟩, rr64⟩
def r85 : RCode :=
  (.seq (.region [
    ⟨(some 2), none, .act, .mv (.const (.slice none 0 0))⟩])
  (.seq (.region [
    ⟨(some 3), none, .act, .mv (.tmp 0)⟩,
    ⟨(some 4), none, .act, .call 111 [(.const (.slice none 0 0)), (.tmp 3)]⟩,
    ⟨(some 2), none, .act, .mv (.tmp 4)⟩])
  .ret))
theorem res85 : ∃ c, Tryz.f85.body = some c ∧ resCode Tryz.prog 5 c = some r85 := ⟨_, rfl, by kernel_rfl⟩
theorem rr85 : resRes Tryz.prog Tryz.f85.results.toList = some [.tmp 2] := by kernel_rfl
theorem fok85 : FOk Tryz.prog 85 ⟨r85, 5, [.tmp 2]⟩ := by
  obtain ⟨c, h1, h2⟩ := res85
  exact ⟨by kernel_rfl, _, c, Tryz.func85, h1, Tryz.ntmps85, ⟨_, h2⟩, rr85⟩
def r111b0 : RCode :=
  (.block 1
   (.region [
     ⟨(some 8), none, .act, .load false 1 (.tmp 2)⟩,
     ⟨(some 9), none, .act, .mv (.tmp 5)⟩,
     ⟨(some 10), none, .act, .buildSl 1 [(.slice none 0 0)] 1 [(0, (.tmp 9))]⟩,
     ⟨(some 11), none, .act, .append 1 24 [(.slice none 0 0)] (.tmp 8) (.tmp 10)⟩,
     ⟨none, none, .act, .store 1 (.tmp 2) (.tmp 11)⟩]))
def r111 : RCode :=
  (.seq (.region [
    ⟨(some 2), none, .act, .box (.tmp 0)⟩,
    ⟨(some 4), none, .act, .mv (.const (.slice none 0 0))⟩])
  (.seq (.seq (.region [
    ⟨(some 6), none, .act, .mv (.tmp 1)⟩])
  (.block 0
   (.rangeFunc (.tmp 6) #[7] (.region [
    ⟨(some 5), none, .act, .mv (.tmp 7)⟩]) r111b0)))
  (.seq (.region [
    ⟨(some 12), none, .act, .load false 1 (.tmp 2)⟩,
    ⟨(some 4), none, .act, .mv (.tmp 12)⟩])
  .ret)))
theorem res111 : ∃ c, Tryz.f111.body = some c ∧ resCode Tryz.prog 13 c = some r111 := ⟨_, rfl, by kernel_rfl⟩
theorem rr111 : resRes Tryz.prog Tryz.f111.results.toList = some [.tmp 4] := by kernel_rfl
theorem fok111 : FOk Tryz.prog 111 ⟨r111, 13, [.tmp 4]⟩ := by
  obtain ⟨c, h1, h2⟩ := res111
  exact ⟨by kernel_rfl, _, c, Tryz.func111, h1, Tryz.ntmps111, ⟨_, h2⟩, rr111⟩
def r87l0 : RCode :=
  (.seq (.region [
    ⟨(some 8), none, .act, .bin .lss (.tmp 7) (.tmp 6)⟩])
  (.seq (.cond (.tmp 8)
   .skip
   (.exit 0))
  (.seq (.block 1
   (.seq (.region [
     ⟨(some 9), none, .act, .indexAddr 1 (.tmp 5) (.tmp 7)⟩,
     ⟨(some 10), none, .act, .load false 1 (.tmp 9)⟩,
     ⟨(some 4), none, .act, .mv (.tmp 10)⟩])
   (.seq (.region [
     ⟨(some 11), none, .act, .mv (.tmp 0)⟩,
     ⟨(some 12), none, .act, .mv (.tmp 4)⟩,
     ⟨(some 13), none, .act, .callv (.tmp 11) [(.tmp 12)]⟩,
     ⟨(some 14), none, .act, .un .not (.tmp 13)⟩])
   (.cond (.tmp 14)
    .ret
    .skip))))
  (.region [
    ⟨(some 15), none, .act, .bin .add (.tmp 7) (.const (.int .i64 1))⟩,
    ⟨(some 7), none, .act, .mv (.tmp 15)⟩]))))
def r87 : RCode :=
  (.seq (.region [
    ⟨(some 5), none, .act, .load false 1 (.tmp 1)⟩,
    ⟨(some 6), none, .act, .len (.tmp 5)⟩,
    ⟨(some 7), none, .act, .mv (.const (.int .i64 0))⟩])
  (.block 0
   (.loop r87l0)))
theorem res87 : ∃ c, Tryz.f87.body = some c ∧ resCode Tryz.prog 16 c = some r87 := ⟨_, rfl, by kernel_rfl⟩
theorem rr87 : resRes Tryz.prog Tryz.f87.results.toList = some [] := by kernel_rfl
theorem fok87 : FOk Tryz.prog 87 ⟨r87, 16, []⟩ := by
  obtain ⟨c, h1, h2⟩ := res87
  exact ⟨by kernel_rfl, _, c, Tryz.func87, h1, Tryz.ntmps87, ⟨_, h2⟩, rr87⟩
def r86 : RCode :=
  (.seq (.region [
    ⟨(some 5), none, .act, .mv (.tmp 0)⟩,
    ⟨(some 6), none, .act, .len (.tmp 5)⟩,
    ⟨(some 4), none, .act, .mv (.tmp 6)⟩])
  (.region [
    ⟨(some 7), none, .act, .mv (.tmp 0)⟩,
    ⟨(some 8), none, .act, .mv (.tmp 4)⟩,
    ⟨(some 9), none, .act, .mv (.tmp 4)⟩,
    ⟨(some 10), none, .act, .convInt .u64 (.tmp 9)⟩,
    ⟨(some 11), none, .act, .call 113 [(.tmp 10)]⟩,
    ⟨(some 12), none, .act, .mv (.tmp 1)⟩,
    ⟨(some 13), none, .act, .call 112 [(.tmp 7), (.const (.int .i64 0)), (.tmp 8), (.tmp 11), (.tmp 12)]⟩]))
theorem res86 : ∃ c, Tryz.f86.body = some c ∧ resCode Tryz.prog 14 c = some r86 := ⟨_, rfl, by kernel_rfl⟩
theorem rr86 : resRes Tryz.prog Tryz.f86.results.toList = some [] := by kernel_rfl
theorem fok86 : FOk Tryz.prog 86 ⟨r86, 14, []⟩ := by
  obtain ⟨c, h1, h2⟩ := res86
  exact ⟨by kernel_rfl, _, c, Tryz.func86, h1, Tryz.ntmps86, ⟨_, h2⟩, rr86⟩
def r113 : RCode :=
  (.seq (.region [
    ⟨(some 2), none, .act, .mv (.const (.int .i64 0))⟩])
  (.seq (.cond (.const (.bool false))
   (.seq (.region [
     ⟨(some 3), none, .act, .mv (.tmp 0)⟩,
     ⟨(some 4), none, .act, .convInt .u32 (.tmp 3)⟩,
     ⟨(some 5), none, .act, .call 149 [(.tmp 4)]⟩,
     ⟨(some 2), none, .act, .mv (.tmp 5)⟩])
   .ret)
   .skip)
  (.seq (.region [
    ⟨(some 6), none, .act, .mv (.tmp 0)⟩,
    ⟨(some 7), none, .act, .call 150 [(.tmp 6)]⟩,
    ⟨(some 2), none, .act, .mv (.tmp 7)⟩])
  .ret)))
theorem res113 : ∃ c, Tryz.f113.body = some c ∧ resCode Tryz.prog 8 c = some r113 := ⟨_, rfl, by kernel_rfl⟩
theorem rr113 : resRes Tryz.prog Tryz.f113.results.toList = some [.tmp 2] := by kernel_rfl
theorem fok113 : FOk Tryz.prog 113 ⟨r113, 8, [.tmp 2]⟩ := by
  obtain ⟨c, h1, h2⟩ := res113
  exact ⟨by kernel_rfl, _, c, Tryz.func113, h1, Tryz.ntmps113, ⟨_, h2⟩, rr113⟩
def r150 : RCode :=
  (.seq (.region [
    ⟨(some 2), none, .act, .mv (.const (.int .i64 0))⟩])
  (.seq (.seq (.region [
    ⟨(some 3), none, .act, .mv (.tmp 0)⟩,
    ⟨(some 4), none, .act, .bin .geq (.tmp 3) (.const (.int .u64 4294967296))⟩])
  (.cond (.tmp 4)
   (.seq (.region [
     ⟨(some 5), none, .act, .mv (.tmp 0)⟩,
     ⟨(some 6), none, .act, .bin .shr (.tmp 5) (.const (.int .u64 32))⟩,
     ⟨(some 0), none, .act, .mv (.tmp 6)⟩])
   (.region [
     ⟨(some 2), none, .act, .mv (.const (.int .i64 32))⟩]))
   .skip))
  (.seq (.seq (.region [
    ⟨(some 7), none, .act, .mv (.tmp 0)⟩,
    ⟨(some 8), none, .act, .bin .geq (.tmp 7) (.const (.int .u64 65536))⟩])
  (.cond (.tmp 8)
   (.seq (.region [
     ⟨(some 9), none, .act, .mv (.tmp 0)⟩,
     ⟨(some 10), none, .act, .bin .shr (.tmp 9) (.const (.int .u64 16))⟩,
     ⟨(some 0), none, .act, .mv (.tmp 10)⟩])
   (.region [
     ⟨(some 11), none, .act, .mv (.tmp 2)⟩,
     ⟨(some 12), none, .act, .bin .add (.tmp 11) (.const (.int .i64 16))⟩,
     ⟨(some 2), none, .act, .mv (.tmp 12)⟩]))
   .skip))
  (.seq (.seq (.region [
    ⟨(some 13), none, .act, .mv (.tmp 0)⟩,
    ⟨(some 14), none, .act, .bin .geq (.tmp 13) (.const (.int .u64 256))⟩])
  (.cond (.tmp 14)
   (.seq (.region [
     ⟨(some 15), none, .act, .mv (.tmp 0)⟩,
     ⟨(some 16), none, .act, .bin .shr (.tmp 15) (.const (.int .u64 8))⟩,
     ⟨(some 0), none, .act, .mv (.tmp 16)⟩])
   (.region [
     ⟨(some 17), none, .act, .mv (.tmp 2)⟩,
     ⟨(some 18), none, .act, .bin .add (.tmp 17) (.const (.int .i64 8))⟩,
     ⟨(some 2), none, .act, .mv (.tmp 18)⟩]))
   .skip))
  (.seq (.region [
    ⟨(some 19), none, .act, .mv (.tmp 2)⟩,
    ⟨(some 20), none, .act, .mv (.tmp 0)⟩,
    ⟨(some 21), none, .act, .convInt .u8 (.tmp 20)⟩,
    ⟨(some 22), none, .act, .indexStr (.const (.string ⟨#[0, 1, 2, 2, 3, 3, 3, 3, 4, 4, 4, 4, 4, 4, 4, 4, 5, 5, 5, 5, 5, 5, 5, 5, 5, 5, 5, 5, 5, 5, 5, 5, 6, 6, 6, 6, 6, 6, 6, 6, 6, 6, 6, 6, 6, 6, 6, 6, 6, 6, 6, 6, 6, 6, 6, 6, 6, 6, 6, 6, 6, 6, 6, 6, 7, 7, 7, 7, 7, 7, 7, 7, 7, 7, 7, 7, 7, 7, 7, 7, 7, 7, 7, 7, 7, 7, 7, 7, 7, 7, 7, 7, 7, 7, 7, 7, 7, 7, 7, 7, 7, 7, 7, 7, 7, 7, 7, 7, 7, 7, 7, 7, 7, 7, 7, 7, 7, 7, 7, 7, 7, 7, 7, 7, 7, 7, 7, 7, 8, 8, 8, 8, 8, 8, 8, 8, 8, 8, 8, 8, 8, 8, 8, 8, 8, 8, 8, 8, 8, 8, 8, 8, 8, 8, 8, 8, 8, 8, 8, 8, 8, 8, 8, 8, 8, 8, 8, 8, 8, 8, 8, 8, 8, 8, 8, 8, 8, 8, 8, 8, 8, 8, 8, 8, 8, 8, 8, 8, 8, 8, 8, 8, 8, 8, 8, 8, 8, 8, 8, 8, 8, 8, 8, 8, 8, 8, 8, 8, 8, 8, 8, 8, 8, 8, 8, 8, 8, 8, 8, 8, 8, 8, 8, 8, 8, 8, 8, 8, 8, 8, 8, 8, 8, 8, 8, 8, 8, 8, 8, 8, 8, 8, 8, 8, 8, 8, 8, 8, 8, 8, 8, 8, 8, 8, 8, 8]⟩)) (.tmp 21)⟩,
    ⟨(some 23), none, .act, .convInt .i64 (.tmp 22)⟩,
    ⟨(some 24), none, .act, .bin .add (.tmp 19) (.tmp 23)⟩,
    ⟨(some 2), none, .act, .mv (.tmp 24)⟩])
  .ret)))))
theorem res150 : ∃ c, Tryz.f150.body = some c ∧ resCode Tryz.prog 25 c = some r150 := ⟨_, rfl, by kernel_rfl⟩
theorem rr150 : resRes Tryz.prog Tryz.f150.results.toList = some [.tmp 2] := by kernel_rfl
theorem fok150 : FOk Tryz.prog 150 ⟨r150, 25, [.tmp 2]⟩ := by
  obtain ⟨c, h1, h2⟩ := res150
  exact ⟨by kernel_rfl, _, c, Tryz.func150, h1, Tryz.ntmps150, ⟨_, h2⟩, rr150⟩
def r112l0 : RCode :=
  (.block 1
   (.seq (.region [
     ⟨(some 21), none, .act, .mv (.tmp 2)⟩,
     ⟨(some 22), none, .act, .mv (.tmp 1)⟩,
     ⟨(some 23), none, .act, .bin .sub (.tmp 21) (.tmp 22)⟩,
     ⟨(some 12), none, .act, .mv (.tmp 23)⟩])
   (.seq (.seq (.region [
     ⟨(some 24), none, .act, .mv (.tmp 12)⟩,
     ⟨(some 25), none, .act, .bin .leq (.tmp 24) (.const (.int .i64 12))⟩])
   (.cond (.tmp 25)
    (.seq (.region [
      ⟨(some 26), none, .act, .mv (.tmp 0)⟩,
      ⟨(some 27), none, .act, .mv (.tmp 1)⟩,
      ⟨(some 28), none, .act, .mv (.tmp 2)⟩,
      ⟨(some 29), none, .act, .mv (.tmp 4)⟩,
      ⟨(some 30), none, .act, .call 141 [(.tmp 26), (.tmp 27), (.tmp 28), (.tmp 29)]⟩])
    .ret)
    .skip))
   (.seq (.seq (.region [
     ⟨(some 31), none, .act, .mv (.tmp 3)⟩,
     ⟨(some 32), none, .act, .eq false .int (.tmp 31) (.const (.int .i64 0))⟩])
   (.cond (.tmp 32)
    (.seq (.region [
      ⟨(some 33), none, .act, .mv (.tmp 0)⟩,
      ⟨(some 34), none, .act, .mv (.tmp 1)⟩,
      ⟨(some 35), none, .act, .mv (.tmp 2)⟩,
      ⟨(some 36), none, .act, .mv (.tmp 4)⟩,
      ⟨(some 37), none, .act, .call 142 [(.tmp 33), (.tmp 34), (.tmp 35), (.tmp 36)]⟩])
    .ret)
    .skip))
   (.seq (.seq (.region [
     ⟨(some 38), none, .act, .mv (.tmp 10)⟩,
     ⟨(some 39), none, .act, .un .not (.tmp 38)⟩])
   (.cond (.tmp 39)
    (.seq (.region [
      ⟨(some 40), none, .act, .mv (.tmp 0)⟩,
      ⟨(some 41), none, .act, .mv (.tmp 1)⟩,
      ⟨(some 42), none, .act, .mv (.tmp 2)⟩,
      ⟨(some 43), none, .act, .mv (.tmp 4)⟩,
      ⟨(some 44), none, .act, .call 143 [(.tmp 40), (.tmp 41), (.tmp 42), (.tmp 43)]⟩])
    (.region [
      ⟨(some 45), none, .act, .mv (.tmp 3)⟩,
      ⟨(some 46), none, .act, .bin .sub (.tmp 45) (.const (.int .i64 1))⟩,
      ⟨(some 3), none, .act, .mv (.tmp 46)⟩]))
    .skip))
   (.seq (.region [
     ⟨(some 48), none, .act, .mv (.tmp 0)⟩,
     ⟨(some 49), none, .act, .mv (.tmp 1)⟩,
     ⟨(some 50), none, .act, .mv (.tmp 2)⟩,
     ⟨(some 51), none, .act, .mv (.tmp 4)⟩,
     ⟨(some 52), none, .act, .call 144 [(.tmp 48), (.tmp 49), (.tmp 50), (.tmp 51)]⟩,
     ⟨(some 47), none, .act, .mv (.tmp 52)⟩,
     ⟨(some 53), none, .act, .extract (.tmp 47) 0⟩,
     ⟨(some 54), none, .act, .extract (.tmp 47) 1⟩,
     ⟨(some 13), none, .act, .mv (.tmp 53)⟩,
     ⟨(some 14), none, .act, .mv (.tmp 54)⟩])
   (.seq (.seq (.region [
     ⟨(some 55), none, .act, .mv (.tmp 14)⟩,
     ⟨(some 56), none, .act, .eq false .int (.tmp 55) (.const (.int .i64 2))⟩])
   (.cond (.tmp 56)
    (.seq (.region [
      ⟨(some 57), none, .act, .mv (.tmp 0)⟩,
      ⟨(some 58), none, .act, .mv (.tmp 1)⟩,
      ⟨(some 59), none, .act, .mv (.tmp 2)⟩,
      ⟨(some 60), none, .act, .mv (.tmp 4)⟩,
      ⟨(some 61), none, .act, .call 145 [(.tmp 57), (.tmp 58), (.tmp 59), (.tmp 60)]⟩])
    (.seq (.region [
      ⟨(some 62), none, .act, .mv (.tmp 2)⟩,
      ⟨(some 63), none, .act, .bin .sub (.tmp 62) (.const (.int .i64 1))⟩,
      ⟨(some 64), none, .act, .mv (.tmp 13)⟩,
      ⟨(some 65), none, .act, .mv (.tmp 1)⟩,
      ⟨(some 66), none, .act, .bin .sub (.tmp 64) (.tmp 65)⟩,
      ⟨(some 67), none, .act, .bin .sub (.tmp 63) (.tmp 66)⟩,
      ⟨(some 13), none, .act, .mv (.tmp 67)⟩])
    (.region [
      ⟨(some 14), none, .act, .mv (.const (.int .i64 1))⟩])))
    .skip))
   (.seq (.seq (.region [
     ⟨(some 68), none, .act, .mv (.tmp 10)⟩,
     ⟨(some 69), none, .act, .mv (.tmp 68)⟩,
     ⟨(some 70), (some (69, true)), .act, .mv (.tmp 11)⟩,
     ⟨(some 71), none, .act, .pick (.tmp 69) (.tmp 70) (.const (.bool false))⟩,
     ⟨(some 72), none, .act, .mv (.tmp 71)⟩,
     ⟨(some 73), (some (72, true)), .act, .mv (.tmp 14)⟩,
     ⟨(some 74), (some (72, true)), .act, .eq false .int (.tmp 73) (.const (.int .i64 1))⟩,
     ⟨(some 75), none, .act, .pick (.tmp 72) (.tmp 74) (.const (.bool false))⟩])
   (.cond (.tmp 75)
    (.seq (.region [
      ⟨(some 76), none, .act, .mv (.tmp 0)⟩,
      ⟨(some 77), none, .act, .mv (.tmp 1)⟩,
      ⟨(some 78), none, .act, .mv (.tmp 2)⟩,
      ⟨(some 79), none, .act, .mv (.tmp 4)⟩,
      ⟨(some 80), none, .act, .call 146 [(.tmp 76), (.tmp 77), (.tmp 78), (.tmp 79)]⟩])
    (.cond (.tmp 80)
     .ret
     .skip))
    .skip))
   (.seq (.seq (.region [
     ⟨(some 81), none, .pure, .mv (.tmp 1)⟩,
     ⟨(some 82), none, .pure, .bin .gtr (.tmp 81) (.const (.int .i64 0))⟩,
     ⟨(some 83), none, .pure, .mv (.tmp 82)⟩,
     ⟨(some 84), (some (83, true)), .pure, .mv (.tmp 4)⟩,
     ⟨(some 85), (some (83, true)), .pure, .mv (.tmp 0)⟩,
     ⟨(some 86), (some (83, true)), .pure, .mv (.tmp 1)⟩,
     ⟨(some 87), (some (83, true)), .pure, .bin .sub (.tmp 86) (.const (.int .i64 1))⟩,
     ⟨(some 88), (some (83, true)), .pure, .indexAddr 1 (.tmp 85) (.tmp 87)⟩,
     ⟨(some 89), (some (83, true)), .read, .load false 1 (.tmp 88)⟩,
     ⟨(some 90), (some (83, true)), .pure, .mv (.tmp 0)⟩,
     ⟨(some 91), (some (83, true)), .pure, .mv (.tmp 13)⟩,
     ⟨(some 92), (some (83, true)), .pure, .indexAddr 1 (.tmp 90) (.tmp 91)⟩,
     ⟨(some 93), (some (83, true)), .read, .load false 1 (.tmp 92)⟩,
     ⟨(some 94), (some (83, true)), .act, .callv (.tmp 84) [(.tmp 89), (.tmp 93)]⟩,
     ⟨(some 95), (some (83, true)), .pure, .bin .lss (.tmp 94) (.const (.int .i64 0))⟩,
     ⟨(some 96), (some (83, true)), .pure, .un .not (.tmp 95)⟩,
     ⟨(some 97), none, .pure, .pick (.tmp 83) (.tmp 96) (.const (.bool false))⟩])
   (.cond (.tmp 97)
    (.seq (.region [
      ⟨(some 98), none, .act, .mv (.tmp 0)⟩,
      ⟨(some 99), none, .act, .mv (.tmp 1)⟩,
      ⟨(some 100), none, .act, .mv (.tmp 2)⟩,
      ⟨(some 101), none, .act, .mv (.tmp 13)⟩,
      ⟨(some 102), none, .act, .mv (.tmp 4)⟩,
      ⟨(some 103), none, .act, .call 147 [(.tmp 98), (.tmp 99), (.tmp 100), (.tmp 101), (.tmp 102)]⟩,
      ⟨(some 15), none, .act, .mv (.tmp 103)⟩])
    (.seq (.region [
      ⟨(some 104), none, .act, .mv (.tmp 15)⟩,
      ⟨(some 1), none, .act, .mv (.tmp 104)⟩])
    (.exit 1)))
    .skip))
   (.seq (.region [
     ⟨(some 106), none, .act, .mv (.tmp 0)⟩,
     ⟨(some 107), none, .act, .mv (.tmp 1)⟩,
     ⟨(some 108), none, .act, .mv (.tmp 2)⟩,
     ⟨(some 109), none, .act, .mv (.tmp 13)⟩,
     ⟨(some 110), none, .act, .mv (.tmp 4)⟩,
     ⟨(some 111), none, .act, .call 148 [(.tmp 106), (.tmp 107), (.tmp 108), (.tmp 109), (.tmp 110)]⟩,
     ⟨(some 105), none, .act, .mv (.tmp 111)⟩,
     ⟨(some 112), none, .act, .extract (.tmp 105) 0⟩,
     ⟨(some 113), none, .act, .extract (.tmp 105) 1⟩,
     ⟨(some 16), none, .act, .mv (.tmp 112)⟩,
     ⟨(some 17), none, .act, .mv (.tmp 113)⟩])
   (.seq (.region [
     ⟨(some 114), none, .act, .mv (.tmp 17)⟩,
     ⟨(some 11), none, .act, .mv (.tmp 114)⟩])
   (.seq (.region [
     ⟨(some 115), none, .act, .mv (.tmp 16)⟩,
     ⟨(some 116), none, .act, .mv (.tmp 1)⟩,
     ⟨(some 117), none, .act, .bin .sub (.tmp 115) (.tmp 116)⟩,
     ⟨(some 118), none, .act, .mv (.tmp 2)⟩,
     ⟨(some 119), none, .act, .mv (.tmp 16)⟩,
     ⟨(some 120), none, .act, .bin .sub (.tmp 118) (.tmp 119)⟩,
     ⟨(some 18), none, .act, .mv (.tmp 117)⟩,
     ⟨(some 19), none, .act, .mv (.tmp 120)⟩])
   (.seq (.region [
     ⟨(some 121), none, .act, .mv (.tmp 12)⟩,
     ⟨(some 122), none, .act, .bin .quo (.tmp 121) (.const (.int .i64 8))⟩,
     ⟨(some 20), none, .act, .mv (.tmp 122)⟩])
   (.seq (.region [
     ⟨(some 123), none, .act, .mv (.tmp 18)⟩,
     ⟨(some 124), none, .act, .mv (.tmp 19)⟩,
     ⟨(some 125), none, .act, .bin .lss (.tmp 123) (.tmp 124)⟩])
   (.cond (.tmp 125)
    (.seq (.region [
      ⟨(some 126), none, .act, .mv (.tmp 18)⟩,
      ⟨(some 127), none, .act, .mv (.tmp 20)⟩,
      ⟨(some 128), none, .act, .bin .geq (.tmp 126) (.tmp 127)⟩,
      ⟨(some 10), none, .act, .mv (.tmp 128)⟩])
    (.seq (.region [
      ⟨(some 129), none, .act, .mv (.tmp 0)⟩,
      ⟨(some 130), none, .act, .mv (.tmp 1)⟩,
      ⟨(some 131), none, .act, .mv (.tmp 16)⟩,
      ⟨(some 132), none, .act, .mv (.tmp 3)⟩,
      ⟨(some 133), none, .act, .mv (.tmp 4)⟩,
      ⟨(some 134), none, .act, .call 112 [(.tmp 129), (.tmp 130), (.tmp 131), (.tmp 132), (.tmp 133)]⟩])
    (.region [
      ⟨(some 135), none, .act, .mv (.tmp 16)⟩,
      ⟨(some 136), none, .act, .bin .add (.tmp 135) (.const (.int .i64 1))⟩,
      ⟨(some 1), none, .act, .mv (.tmp 136)⟩])))
    (.seq (.region [
      ⟨(some 137), none, .act, .mv (.tmp 19)⟩,
      ⟨(some 138), none, .act, .mv (.tmp 20)⟩,
      ⟨(some 139), none, .act, .bin .geq (.tmp 137) (.tmp 138)⟩,
      ⟨(some 10), none, .act, .mv (.tmp 139)⟩])
    (.seq (.region [
      ⟨(some 140), none, .act, .mv (.tmp 0)⟩,
      ⟨(some 141), none, .act, .mv (.tmp 16)⟩,
      ⟨(some 142), none, .act, .bin .add (.tmp 141) (.const (.int .i64 1))⟩,
      ⟨(some 143), none, .act, .mv (.tmp 2)⟩,
      ⟨(some 144), none, .act, .mv (.tmp 3)⟩,
      ⟨(some 145), none, .act, .mv (.tmp 4)⟩,
      ⟨(some 146), none, .act, .call 112 [(.tmp 140), (.tmp 142), (.tmp 143), (.tmp 144), (.tmp 145)]⟩])
    (.region [
      ⟨(some 147), none, .act, .mv (.tmp 16)⟩,
      ⟨(some 2), none, .act, .mv (.tmp 147)⟩]))))))))))))))))))
def r112 : RCode :=
  (.seq (.region [
    ⟨(some 10), none, .act, .mv (.const (.bool true))⟩])
  (.seq (.region [
    ⟨(some 11), none, .act, .mv (.const (.bool true))⟩])
  (.block 0
   (.loop r112l0))))
theorem res112 : ∃ c, Tryz.f112.body = some c ∧ resCode Tryz.prog 148 c = some r112 := ⟨_, rfl, by kernel_rfl⟩
theorem rr112 : resRes Tryz.prog Tryz.f112.results.toList = some [] := by kernel_rfl
theorem fok112 : FOk Tryz.prog 112 ⟨r112, 148, []⟩ := by
  obtain ⟨c, h1, h2⟩ := res112
  exact ⟨by kernel_rfl, _, c, Tryz.func112, h1, Tryz.ntmps112, ⟨_, h2⟩, rr112⟩
def r141l1 : RCode :=
  (.seq (.seq (.region [
    ⟨(some 18), none, .pure, .mv (.tmp 9)⟩,
    ⟨(some 19), none, .pure, .mv (.tmp 1)⟩,
    ⟨(some 20), none, .pure, .bin .gtr (.tmp 18) (.tmp 19)⟩,
    ⟨(some 21), none, .pure, .mv (.tmp 20)⟩,
    ⟨(some 22), (some (21, true)), .pure, .mv (.tmp 3)⟩,
    ⟨(some 23), (some (21, true)), .pure, .mv (.tmp 0)⟩,
    ⟨(some 24), (some (21, true)), .pure, .mv (.tmp 9)⟩,
    ⟨(some 25), (some (21, true)), .pure, .indexAddr 1 (.tmp 23) (.tmp 24)⟩,
    ⟨(some 26), (some (21, true)), .read, .load false 1 (.tmp 25)⟩,
    ⟨(some 27), (some (21, true)), .pure, .mv (.tmp 0)⟩,
    ⟨(some 28), (some (21, true)), .pure, .mv (.tmp 9)⟩,
    ⟨(some 29), (some (21, true)), .pure, .bin .sub (.tmp 28) (.const (.int .i64 1))⟩,
    ⟨(some 30), (some (21, true)), .pure, .indexAddr 1 (.tmp 27) (.tmp 29)⟩,
    ⟨(some 31), (some (21, true)), .read, .load false 1 (.tmp 30)⟩,
    ⟨(some 32), (some (21, true)), .act, .callv (.tmp 22) [(.tmp 26), (.tmp 31)]⟩,
    ⟨(some 33), (some (21, true)), .pure, .bin .lss (.tmp 32) (.const (.int .i64 0))⟩,
    ⟨(some 34), none, .pure, .pick (.tmp 21) (.tmp 33) (.const (.bool false))⟩])
  (.cond (.tmp 34)
   .skip
   (.exit 2)))
  (.seq (.block 3
   (.region [
     ⟨(some 37), none, .pure, .mv (.tmp 0)⟩,
     ⟨(some 38), none, .pure, .mv (.tmp 9)⟩,
     ⟨(some 39), none, .pure, .mv (.tmp 0)⟩,
     ⟨(some 40), none, .pure, .mv (.tmp 9)⟩,
     ⟨(some 41), none, .pure, .bin .sub (.tmp 40) (.const (.int .i64 1))⟩,
     ⟨(some 42), none, .pure, .mv (.tmp 0)⟩,
     ⟨(some 43), none, .pure, .mv (.tmp 9)⟩,
     ⟨(some 44), none, .pure, .bin .sub (.tmp 43) (.const (.int .i64 1))⟩,
     ⟨(some 45), none, .pure, .indexAddr 1 (.tmp 42) (.tmp 44)⟩,
     ⟨(some 46), none, .read, .load false 1 (.tmp 45)⟩,
     ⟨(some 47), none, .pure, .mv (.tmp 0)⟩,
     ⟨(some 48), none, .pure, .mv (.tmp 9)⟩,
     ⟨(some 49), none, .pure, .indexAddr 1 (.tmp 47) (.tmp 48)⟩,
     ⟨(some 50), none, .read, .load false 1 (.tmp 49)⟩,
     ⟨(some 51), none, .pure, .indexAddr 1 (.tmp 37) (.tmp 38)⟩,
     ⟨none, none, .act, .store 1 (.tmp 51) (.tmp 46)⟩,
     ⟨(some 52), none, .pure, .indexAddr 1 (.tmp 39) (.tmp 41)⟩,
     ⟨none, none, .act, .store 1 (.tmp 52) (.tmp 50)⟩]))
  (.region [
    ⟨(some 35), none, .act, .mv (.tmp 9)⟩,
    ⟨(some 36), none, .act, .bin .sub (.tmp 35) (.const (.int .i64 1))⟩,
    ⟨(some 9), none, .act, .mv (.tmp 36)⟩])))
def r141l0 : RCode :=
  (.seq (.seq (.region [
    ⟨(some 12), none, .act, .mv (.tmp 8)⟩,
    ⟨(some 13), none, .act, .mv (.tmp 2)⟩,
    ⟨(some 14), none, .act, .bin .lss (.tmp 12) (.tmp 13)⟩])
  (.cond (.tmp 14)
   .skip
   (.exit 0)))
  (.seq (.block 1
   (.seq (.region [
     ⟨(some 17), none, .act, .mv (.tmp 8)⟩,
     ⟨(some 9), none, .act, .mv (.tmp 17)⟩])
   (.block 2
    (.loop r141l1))))
  (.region [
    ⟨(some 15), none, .act, .mv (.tmp 8)⟩,
    ⟨(some 16), none, .act, .bin .add (.tmp 15) (.const (.int .i64 1))⟩,
    ⟨(some 8), none, .act, .mv (.tmp 16)⟩])))
def r141 : RCode :=
  (.seq (.region [
    ⟨(some 10), none, .act, .mv (.tmp 1)⟩,
    ⟨(some 11), none, .act, .bin .add (.tmp 10) (.const (.int .i64 1))⟩,
    ⟨(some 8), none, .act, .mv (.tmp 11)⟩])
  (.block 0
   (.loop r141l0)))
theorem res141 : ∃ c, Tryz.f141.body = some c ∧ resCode Tryz.prog 53 c = some r141 := ⟨_, rfl, by kernel_rfl⟩
theorem rr141 : resRes Tryz.prog Tryz.f141.results.toList = some [] := by kernel_rfl
theorem fok141 : FOk Tryz.prog 141 ⟨r141, 53, []⟩ := by
  obtain ⟨c, h1, h2⟩ := res141
  exact ⟨by kernel_rfl, _, c, Tryz.func141, h1, Tryz.ntmps141, ⟨_, h2⟩, rr141⟩
def r37 : RCode :=
  (.seq (.region [
    ⟨(some 0), none, .act, .mv (.const (.pointer none))⟩])
  (.seq (.region [
    ⟨(some 1), none, .act, .call 67 []⟩,
    ⟨(some 2), none, .act, .makeMap⟩,
    ⟨(some 3), none, .act, .build [(.int .u64 0), (.slice none 0 0), (.pointer none), (.slice none 0 0), (.map none)] [(2, 1, (.tmp 1)), (4, 1, (.tmp 2))]⟩,
    ⟨(some 4), none, .act, .box (.tmp 3)⟩,
    ⟨(some 0), none, .act, .mv (.tmp 4)⟩])
  .ret))
theorem res37 : ∃ c, Tryz.f37.body = some c ∧ resCode Tryz.prog 5 c = some r37 := ⟨_, rfl, by kernel_rfl⟩
theorem rr37 : resRes Tryz.prog Tryz.f37.results.toList = some [.tmp 0] := by kernel_rfl
theorem fok37 : FOk Tryz.prog 37 ⟨r37, 5, [.tmp 0]⟩ := by
  obtain ⟨c, h1, h2⟩ := res37
  exact ⟨by kernel_rfl, _, c, Tryz.func37, h1, Tryz.ntmps37, ⟨_, h2⟩, rr37⟩
def r67 : RCode :=
  (.seq (.region [
    ⟨(some 0), none, .act, .mv (.const (.pointer none))⟩])
  (.seq (.region [
    ⟨(some 1), none, .act, .build [(.slice none 0 0), (.slice none 0 0), (.bool false)] [(2, 1, (.const (.bool true)))]⟩,
    ⟨(some 2), none, .act, .box (.tmp 1)⟩,
    ⟨(some 0), none, .act, .mv (.tmp 2)⟩])
  .ret))
theorem res67 : ∃ c, Tryz.f67.body = some c ∧ resCode Tryz.prog 3 c = some r67 := ⟨_, rfl, by kernel_rfl⟩
theorem rr67 : resRes Tryz.prog Tryz.f67.results.toList = some [.tmp 0] := by kernel_rfl
theorem fok67 : FOk Tryz.prog 67 ⟨r67, 3, [.tmp 0]⟩ := by
  obtain ⟨c, h1, h2⟩ := res67
  exact ⟨by kernel_rfl, _, c, Tryz.func67, h1, Tryz.ntmps67, ⟨_, h2⟩, rr67⟩
def r38 : RCode :=
  (.seq (.region [
    ⟨(some 0), none, .act, .mv (.const (.pointer none))⟩])
  (.seq (.region [
    ⟨(some 1), none, .act, .call 68 []⟩,
    ⟨(some 2), none, .act, .makeMap⟩,
    ⟨(some 3), none, .act, .build [(.pointer none), (.map none)] [(0, 1, (.tmp 1)), (1, 1, (.tmp 2))]⟩,
    ⟨(some 4), none, .act, .box (.tmp 3)⟩,
    ⟨(some 0), none, .act, .mv (.tmp 4)⟩])
  .ret))
theorem res38 : ∃ c, Tryz.f38.body = some c ∧ resCode Tryz.prog 5 c = some r38 := ⟨_, rfl, by kernel_rfl⟩
theorem rr38 : resRes Tryz.prog Tryz.f38.results.toList = some [.tmp 0] := by kernel_rfl
theorem fok38 : FOk Tryz.prog 38 ⟨r38, 5, [.tmp 0]⟩ := by
  obtain ⟨c, h1, h2⟩ := res38
  exact ⟨by kernel_rfl, _, c, Tryz.func38, h1, Tryz.ntmps38, ⟨_, h2⟩, rr38⟩
def r68 : RCode :=
  (.seq (.region [
    ⟨(some 0), none, .act, .mv (.const (.pointer none))⟩])
  (.seq (.region [
    ⟨(some 1), none, .act, .makeMap⟩,
    ⟨(some 2), none, .act, .makeMap⟩,
    ⟨(some 3), none, .act, .build [(.map none), (.map none)] [(0, 1, (.tmp 1)), (1, 1, (.tmp 2))]⟩,
    ⟨(some 4), none, .act, .box (.tmp 3)⟩,
    ⟨(some 0), none, .act, .mv (.tmp 4)⟩])
  .ret))
theorem res68 : ∃ c, Tryz.f68.body = some c ∧ resCode Tryz.prog 5 c = some r68 := ⟨_, rfl, by kernel_rfl⟩
theorem rr68 : resRes Tryz.prog Tryz.f68.results.toList = some [.tmp 0] := by kernel_rfl
theorem fok68 : FOk Tryz.prog 68 ⟨r68, 5, [.tmp 0]⟩ := by
  obtain ⟨c, h1, h2⟩ := res68
  exact ⟨by kernel_rfl, _, c, Tryz.func68, h1, Tryz.ntmps68, ⟨_, h2⟩, rr68⟩
def md11 : Nat → Bool := fun id => [1].contains id
def r11l0 : RCode :=
  (.seq (.region [
    ⟨(some 21), none, .act, .bin .lss (.tmp 20) (.const (.int .i64 1000))⟩])
  (.seq (.cond (.tmp 21)
   .skip
   (.exit 0))
  (.seq (.block 1
   (.seq (.region [
     ⟨(some 22), none, .act, .mv (.tmp 0)⟩,
     ⟨(some 23), none, .act, .mv (.tmp 1)⟩,
     ⟨(some 24), none, .act, .call 17 [(.tmp 22), (.tmp 23)]⟩,
     ⟨(some 25), none, .act, .un .not (.tmp 24)⟩])
   (.cond (.tmp 25)
    (.exit 0)
    .skip)))
  (.region [
    ⟨(some 26), none, .act, .bin .add (.tmp 20) (.const (.int .i64 1))⟩,
    ⟨(some 20), none, .act, .mv (.tmp 26)⟩]))))
def r11 : RCode :=
  (.seq (.region [
    ⟨(some 5), none, .act, .box (.tmp 2)⟩,
    ⟨(some 6), none, .act, .alloc [(.int .i64 0), (.slice none 0 0), (.slice none 0 0), (.int .u64 0)]⟩,
    ⟨(some 7), none, .act, .mv (.const (.bool false))⟩])
  (.seq (.seq (.regionT (.step ⟨(some 11), none, .pure, .mv (.tmp 0)⟩ (.step ⟨(some 13), none, .pure, .mv (.tmp 1)⟩ (.alt ⟨(some 12), none, .act, .call 14 [(.tmp 11)]⟩ (.step ⟨(some 14), none, .read, .load true 11 (.tmp 5)⟩ (.alt ⟨(some 15), none, .act, .call 12 [(.tmp 12), (.tmp 13), (.tmp 14)]⟩ (.step ⟨(some 8), none, .pure, .mv (.tmp 15)⟩ .done)
    .stop))
    (.alt ⟨(some 14), none, .read, .load true 11 (.tmp 5)⟩ (.alt ⟨(some 12), none, .act, .call 14 [(.tmp 11)]⟩ (.alt ⟨(some 15), none, .act, .call 12 [(.tmp 12), (.tmp 13), (.tmp 14)]⟩ (.step ⟨(some 8), none, .pure, .mv (.tmp 15)⟩ .done)
    .stop)
    .stop)
    .stop)))))
  (.seq (.region [
    ⟨(some 16), none, .act, .mv (.tmp 8)⟩,
    ⟨(some 17), none, .act, .eq true .int (.tmp 16) (.const (.int .i64 0))⟩])
  (.cond (.tmp 17)
   (.seq (.region [
     ⟨(some 18), none, .act, .mv (.tmp 8)⟩,
     ⟨(some 19), none, .act, .build [(.int .i64 0), (.slice none 0 0), (.slice none 0 0), (.int .u64 0)] [(0, 1, (.tmp 18))]⟩,
     ⟨none, none, .act, .store 4 (.tmp 6) (.tmp 19)⟩,
     ⟨(some 7), none, .act, .mv (.const (.bool true))⟩])
   .ret)
   .skip)))
  (.seq .skip
  (.seq (.seq (.region [
    ⟨(some 20), none, .act, .mv (.const (.int .i64 0))⟩])
  (.block 0
   (.loop r11l0)))
  (.seq (.region [
    ⟨(some 28), none, .act, .mv (.tmp 0)⟩,
    ⟨(some 29), none, .act, .nilCheck (.tmp 28)⟩,
    ⟨(some 30), none, .act, .fieldAddr 0 (.tmp 29)⟩,
    ⟨(some 31), none, .act, .load false 1 (.tmp 30)⟩,
    ⟨(some 32), none, .act, .mv (.tmp 1)⟩,
    ⟨(some 33), none, .act, .call 9 [(.tmp 31), (.tmp 32)]⟩,
    ⟨(some 27), none, .act, .mv (.tmp 33)⟩,
    ⟨(some 34), none, .act, .extract (.tmp 27) 0⟩,
    ⟨(some 35), none, .act, .extract (.tmp 27) 1⟩,
    ⟨(some 9), none, .act, .alloc [(.int .i64 0), (.slice none 0 0), (.slice none 0 0), (.int .u64 0)]⟩,
    ⟨none, none, .act, .store 4 (.tmp 9) (.tmp 34)⟩,
    ⟨(some 10), none, .act, .mv (.tmp 35)⟩])
  (.seq (.region [
    ⟨(some 36), none, .pure, .fieldAddr 1 (.tmp 9)⟩,
    ⟨(some 37), none, .read, .load false 1 (.tmp 36)⟩,
    ⟨(some 38), none, .read, .call 25 [(.tmp 37)]⟩,
    ⟨(some 39), none, .pure, .fieldAddr 2 (.tmp 9)⟩,
    ⟨(some 40), none, .read, .load false 1 (.tmp 39)⟩,
    ⟨(some 42), none, .pure, .fieldAddr 1 (.tmp 9)⟩,
    ⟨(some 41), none, .act, .call 26 [(.tmp 40)]⟩,
    ⟨none, none, .act, .store 1 (.tmp 42) (.tmp 38)⟩,
    ⟨(some 43), none, .pure, .fieldAddr 2 (.tmp 9)⟩,
    ⟨none, none, .act, .store 1 (.tmp 43) (.tmp 41)⟩])
  (.seq (.region [
    ⟨(some 44), none, .act, .load true 4 (.tmp 9)⟩,
    ⟨(some 45), none, .act, .mv (.tmp 10)⟩,
    ⟨none, none, .act, .store 4 (.tmp 6) (.tmp 44)⟩,
    ⟨(some 7), none, .act, .mv (.tmp 45)⟩])
  .ret)))))))
theorem res11 : ∃ c, Tryz.f11.body = some c ∧ resCodeM Tryz.prog 46 md11 c = some r11 := ⟨_, rfl, by kernel_rfl⟩
theorem rr11 : resRes Tryz.prog Tryz.f11.results.toList = some [.cell 6 true 4, .tmp 7] := by kernel_rfl
theorem fok11 : FOk Tryz.prog 11 ⟨r11, 46, [.cell 6 true 4, .tmp 7]⟩ := by
  obtain ⟨c, h1, h2⟩ := res11
  exact ⟨by kernel_rfl, _, c, Tryz.func11, h1, Tryz.ntmps11, ⟨_, h2⟩, rr11⟩
def r14 : RCode :=
  (.seq (.region [
    ⟨(some 2), none, .act, .mv (.const (.pointer none))⟩])
  (.seq (.seq (.region [
    ⟨(some 3), none, .act, .mv (.tmp 0)⟩,
    ⟨(some 4), none, .act, .eq false .ptr (.tmp 3) (.const (.pointer none))⟩])
  (.cond (.tmp 4)
   (.seq (.region [
     ⟨(some 2), none, .act, .mv (.const (.pointer none))⟩])
   .ret)
   .skip))
  (.seq (.region [
    ⟨(some 5), none, .act, .mv (.tmp 0)⟩,
    ⟨(some 6), none, .act, .nilCheck (.tmp 5)⟩,
    ⟨(some 7), none, .act, .fieldAddr 0 (.tmp 6)⟩,
    ⟨(some 8), none, .act, .load false 1 (.tmp 7)⟩,
    ⟨(some 2), none, .act, .mv (.tmp 8)⟩])
  .ret)))
theorem res14 : ∃ c, Tryz.f14.body = some c ∧ resCode Tryz.prog 9 c = some r14 := ⟨_, rfl, by kernel_rfl⟩
theorem rr14 : resRes Tryz.prog Tryz.f14.results.toList = some [.tmp 2] := by kernel_rfl
theorem fok14 : FOk Tryz.prog 14 ⟨r14, 9, [.tmp 2]⟩ := by
  obtain ⟨c, h1, h2⟩ := res14
  exact ⟨by kernel_rfl, _, c, Tryz.func14, h1, Tryz.ntmps14, ⟨_, h2⟩, rr14⟩
def r12 : RCode :=
  (.seq (.region [
    ⟨(some 5), none, .act, .box (.tmp 2)⟩,
    ⟨(some 6), none, .act, .mv (.const (.int .i64 0))⟩])
  (.seq (.block 0
   (.seq (.region [
     ⟨(some 9), none, .act, .mv (.tmp 0)⟩,
     ⟨(some 10), none, .act, .call 20 [(.tmp 9)]⟩,
     ⟨(some 11), none, .act, .un .not (.tmp 10)⟩,
     ⟨(some 8), none, .act, .mv (.tmp 11)⟩])
   (.cond (.tmp 8)
    (.seq (.region [
      ⟨(some 6), none, .act, .mv (.const (.int .i64 1))⟩])
    .ret)
    (.seq (.region [
      ⟨(some 13), none, .act, .mv (.tmp 0)⟩,
      ⟨(some 14), none, .act, .mv (.tmp 1)⟩,
      ⟨(some 15), none, .act, .call 27 [(.tmp 13), (.tmp 14)]⟩,
      ⟨(some 16), none, .act, .nilCheck (.tmp 15)⟩,
      ⟨(some 17), none, .act, .fieldAddr 6 (.tmp 16)⟩,
      ⟨(some 18), none, .act, .load false 1 (.tmp 17)⟩,
      ⟨(some 12), none, .act, .mv (.tmp 18)⟩])
    (.cond (.tmp 12)
     (.seq (.region [
       ⟨(some 6), none, .act, .mv (.const (.int .i64 180))⟩])
     .ret)
     (.seq (.region [
       ⟨(some 20), none, .act, .mv (.tmp 1)⟩,
       ⟨(some 21), none, .act, .eq false .int (.tmp 20) (.const (.int .u64 0))⟩,
       ⟨(some 19), none, .act, .mv (.tmp 21)⟩])
     (.cond (.tmp 19)
      (.seq (.region [
        ⟨(some 6), none, .act, .mv (.const (.int .i64 1))⟩])
      .ret)
      .skip)))))))
  (.seq (.region [
    ⟨(some 22), none, .act, .mv (.tmp 0)⟩,
    ⟨(some 23), none, .act, .mv (.tmp 1)⟩,
    ⟨(some 24), none, .act, .call 27 [(.tmp 22), (.tmp 23)]⟩,
    ⟨(some 7), none, .act, .mv (.tmp 24)⟩])
  (.seq (.region [
    ⟨(some 25), none, .act, .mv (.tmp 7)⟩,
    ⟨(some 26), none, .act, .mv (.tmp 7)⟩,
    ⟨(some 27), none, .act, .mv (.tmp 7)⟩,
    ⟨(some 28), none, .act, .mv (.tmp 7)⟩,
    ⟨(some 29), none, .act, .load true 11 (.tmp 5)⟩,
    ⟨(some 30), none, .act, .call 28 [(.tmp 29)]⟩,
    ⟨(some 31), none, .act, .build [(.int .i64 0), (.slice none 0 0), (.slice none 0 0), (.int .u64 0)] []⟩,
    ⟨(some 32), none, .act, .nilCheck (.tmp 25)⟩,
    ⟨(some 33), none, .act, .fieldAddr 6 (.tmp 32)⟩,
    ⟨none, none, .act, .store 1 (.tmp 33) (.const (.bool true))⟩,
    ⟨(some 34), none, .act, .nilCheck (.tmp 26)⟩,
    ⟨(some 35), none, .act, .fieldAddr 8 (.tmp 34)⟩,
    ⟨none, none, .act, .store 11 (.tmp 35) (.tmp 30)⟩,
    ⟨(some 36), none, .act, .nilCheck (.tmp 27)⟩,
    ⟨(some 37), none, .act, .fieldAddr 20 (.tmp 36)⟩,
    ⟨none, none, .act, .store 4 (.tmp 37) (.tmp 31)⟩,
    ⟨(some 38), none, .act, .nilCheck (.tmp 28)⟩,
    ⟨(some 39), none, .act, .fieldAddr 19 (.tmp 38)⟩,
    ⟨none, none, .act, .store 1 (.tmp 39) (.const (.int .i64 0))⟩])
  (.seq (.region [
    ⟨(some 40), none, .act, .mv (.tmp 7)⟩,
    ⟨(some 41), none, .act, .mv (.tmp 0)⟩,
    ⟨(some 42), none, .act, .mv (.tmp 7)⟩,
    ⟨(some 43), none, .act, .call 30 [(.tmp 41), (.tmp 42)]⟩,
    ⟨(some 44), none, .act, .call 29 [(.tmp 40), (.tmp 43)]⟩])
  (.seq (.region [
    ⟨(some 6), none, .act, .mv (.const (.int .i64 0))⟩])
  .ret))))))
theorem res12 : ∃ c, Tryz.f12.body = some c ∧ resCode Tryz.prog 45 c = some r12 := ⟨_, rfl, by kernel_rfl⟩
theorem rr12 : resRes Tryz.prog Tryz.f12.results.toList = some [.tmp 6] := by kernel_rfl
theorem fok12 : FOk Tryz.prog 12 ⟨r12, 45, [.tmp 6]⟩ := by
  obtain ⟨c, h1, h2⟩ := res12
  exact ⟨by kernel_rfl, _, c, Tryz.func12, h1, Tryz.ntmps12, ⟨_, h2⟩, rr12⟩
def r20 : RCode :=
  (.seq (.region [
    ⟨(some 2), none, .act, .mv (.const (.bool false))⟩])
  (.seq (.region [
    ⟨(some 3), none, .act, .mv (.tmp 0)⟩,
    ⟨(some 4), none, .act, .eq true .ptr (.tmp 3) (.const (.pointer none))⟩,
    ⟨(some 5), none, .act, .mv (.tmp 4)⟩,
    ⟨(some 6), (some (5, true)), .act, .mv (.tmp 0)⟩,
    ⟨(some 7), (some (5, true)), .act, .nilCheck (.tmp 6)⟩,
    ⟨(some 8), (some (5, true)), .act, .fieldAddr 1 (.tmp 7)⟩,
    ⟨(some 9), (some (5, true)), .act, .load false 1 (.tmp 8)⟩,
    ⟨(some 10), (some (5, true)), .act, .eq true .map (.tmp 9) (.const (.map none))⟩,
    ⟨(some 11), none, .act, .pick (.tmp 5) (.tmp 10) (.const (.bool false))⟩,
    ⟨(some 2), none, .act, .mv (.tmp 11)⟩])
  .ret))
theorem res20 : ∃ c, Tryz.f20.body = some c ∧ resCode Tryz.prog 12 c = some r20 := ⟨_, rfl, by kernel_rfl⟩
theorem rr20 : resRes Tryz.prog Tryz.f20.results.toList = some [.tmp 2] := by kernel_rfl
theorem fok20 : FOk Tryz.prog 20 ⟨r20, 12, [.tmp 2]⟩ := by
  obtain ⟨c, h1, h2⟩ := res20
  exact ⟨by kernel_rfl, _, c, Tryz.func20, h1, Tryz.ntmps20, ⟨_, h2⟩, rr20⟩
def r27 : RCode :=
  (.seq (.region [
    ⟨(some 4), none, .act, .mv (.const (.pointer none))⟩])
  (.seq (.seq (.region [
    ⟨(some 5), none, .act, .mv (.tmp 0)⟩,
    ⟨(some 6), none, .act, .nilCheck (.tmp 5)⟩,
    ⟨(some 7), none, .act, .fieldAddr 1 (.tmp 6)⟩,
    ⟨(some 8), none, .act, .load false 1 (.tmp 7)⟩,
    ⟨(some 9), none, .act, .mv (.tmp 1)⟩,
    ⟨(some 10), none, .act, .lookup 30 (.pointer none) (.tmp 8) (.tmp 9) false⟩,
    ⟨(some 11), none, .act, .eq false .ptr (.tmp 10) (.const (.pointer none))⟩])
  (.cond (.tmp 11)
   (.region [
     ⟨(some 12), none, .act, .mv (.tmp 0)⟩,
     ⟨(some 13), none, .act, .nilCheck (.tmp 12)⟩,
     ⟨(some 14), none, .act, .fieldAddr 1 (.tmp 13)⟩,
     ⟨(some 15), none, .act, .load false 1 (.tmp 14)⟩,
     ⟨(some 16), none, .act, .mv (.tmp 1)⟩,
     ⟨(some 17), none, .act, .build [(.int .u64 0), (.int .i64 0), (.int .u64 0), (.slice none 0 0), (.slice none 0 0), (.slice none 0 0), (.bool false), (.bool false), (.int .i64 0), (.int .i64 0), (.slice none 0 0), (.bool false), (.slice none 0 0), (.string ⟨#[]⟩), (.int .i64 0), (.string ⟨#[]⟩), (.slice none 0 0), (.int .i64 0), (.slice none 0 0), (.int .i64 0), (.int .i64 0), (.slice none 0 0), (.slice none 0 0), (.int .u64 0), (.int .u64 0), (.bool false), (.int .u64 0), (.int .u64 0), (.int .i64 0), (.int .u64 0), (.int .u64 0), (.bool false), (.int .u64 0), (.int .i64 0), (.int .i64 0), (.slice none 0 0), (.slice none 0 0), (.slice none 0 0), (.slice none 0 0), (.slice none 0 0), (.slice none 0 0), (.slice none 0 0), (.int .i64 0), (.string ⟨#[]⟩), (.slice none 0 0), (.int .i64 0), (.slice none 0 0), (.int .i64 0), (.slice none 0 0), (.slice none 0 0), (.slice none 0 0), (.map none), (.slice none 0 0), (.int .i64 0), (.map none), (.slice none 0 0), (.int .i64 0), (.bool false), (.int .u64 0)] []⟩,
     ⟨(some 18), none, .act, .box (.tmp 17)⟩,
     ⟨none, none, .act, .mapUpdate 30 (.tmp 15) (.tmp 16) (.tmp 18)⟩])
   .skip))
  (.seq (.region [
    ⟨(some 19), none, .act, .mv (.tmp 0)⟩,
    ⟨(some 20), none, .act, .nilCheck (.tmp 19)⟩,
    ⟨(some 21), none, .act, .fieldAddr 1 (.tmp 20)⟩,
    ⟨(some 22), none, .act, .load false 1 (.tmp 21)⟩,
    ⟨(some 23), none, .act, .mv (.tmp 1)⟩,
    ⟨(some 24), none, .act, .lookup 30 (.pointer none) (.tmp 22) (.tmp 23) false⟩,
    ⟨(some 4), none, .act, .mv (.tmp 24)⟩])
  .ret)))
theorem res27 : ∃ c, Tryz.f27.body = some c ∧ resCode Tryz.prog 25 c = some r27 := ⟨_, rfl, by kernel_rfl⟩
theorem rr27 : resRes Tryz.prog Tryz.f27.results.toList = some [.tmp 4] := by kernel_rfl
theorem fok27 : FOk Tryz.prog 27 ⟨r27, 25, [.tmp 4]⟩ := by
  obtain ⟨c, h1, h2⟩ := res27
  exact ⟨by kernel_rfl, _, c, Tryz.func27, h1, Tryz.ntmps27, ⟨_, h2⟩, rr27⟩
def r28l0 : RCode :=
  (.seq (.region [
    ⟨(some 17), none, .act, .bin .lss (.tmp 16) (.tmp 15)⟩])
  (.seq (.cond (.tmp 17)
   .skip
   (.exit 0))
  (.seq (.block 1
   (.seq (.region [
     ⟨(some 18), none, .act, .mv (.tmp 16)⟩,
     ⟨(some 3), none, .act, .mv (.tmp 18)⟩])
   (.region [
     ⟨(some 19), none, .pure, .fieldAddr 2 (.tmp 1)⟩,
     ⟨(some 20), none, .read, .load false 1 (.tmp 19)⟩,
     ⟨(some 21), none, .pure, .mv (.tmp 3)⟩,
     ⟨(some 22), none, .pure, .fieldAddr 2 (.tmp 1)⟩,
     ⟨(some 23), none, .read, .load false 1 (.tmp 22)⟩,
     ⟨(some 24), none, .pure, .mv (.tmp 3)⟩,
     ⟨(some 25), none, .pure, .indexAddr 2 (.tmp 23) (.tmp 24)⟩,
     ⟨(some 26), none, .pure, .fieldAddr 0 (.tmp 25)⟩,
     ⟨(some 27), none, .read, .load false 1 (.tmp 26)⟩,
     ⟨(some 28), none, .read, .call 34 [(.tmp 27)]⟩,
     ⟨(some 29), none, .pure, .fieldAddr 2 (.tmp 1)⟩,
     ⟨(some 30), none, .read, .load false 1 (.tmp 29)⟩,
     ⟨(some 31), none, .pure, .mv (.tmp 3)⟩,
     ⟨(some 32), none, .pure, .indexAddr 2 (.tmp 30) (.tmp 31)⟩,
     ⟨(some 33), none, .pure, .fieldAddr 1 (.tmp 32)⟩,
     ⟨(some 34), none, .read, .load false 1 (.tmp 33)⟩,
     ⟨(some 35), none, .read, .call 34 [(.tmp 34)]⟩,
     ⟨(some 36), none, .pure, .build [(.slice none 0 0), (.slice none 0 0)] [(0, 1, (.tmp 28)), (1, 1, (.tmp 35))]⟩,
     ⟨(some 37), none, .pure, .indexAddr 2 (.tmp 20) (.tmp 21)⟩,
     ⟨none, none, .act, .store 2 (.tmp 37) (.tmp 36)⟩])))
  (.region [
    ⟨(some 38), none, .act, .bin .add (.tmp 16) (.const (.int .i64 1))⟩,
    ⟨(some 16), none, .act, .mv (.tmp 38)⟩]))))
def r28l1 : RCode :=
  (.seq (.region [
    ⟨(some 43), none, .act, .bin .lss (.tmp 42) (.tmp 41)⟩])
  (.seq (.cond (.tmp 43)
   .skip
   (.exit 2))
  (.seq (.block 3
   (.seq (.region [
     ⟨(some 44), none, .act, .mv (.tmp 42)⟩,
     ⟨(some 4), none, .act, .mv (.tmp 44)⟩])
   (.regionT (.step ⟨(some 45), none, .pure, .fieldAddr 4 (.tmp 1)⟩ (.step ⟨(some 46), none, .read, .load false 1 (.tmp 45)⟩ (.step ⟨(some 47), none, .pure, .mv (.tmp 4)⟩ (.step ⟨(some 48), none, .pure, .fieldAddr 4 (.tmp 1)⟩ (.step ⟨(some 50), none, .pure, .mv (.tmp 4)⟩ (.step ⟨(some 51), none, .pure, .fieldAddr 4 (.tmp 1)⟩ (.step ⟨(some 52), none, .read, .load false 1 (.tmp 51)⟩ (.step ⟨(some 53), none, .pure, .mv (.tmp 4)⟩ (.step ⟨(some 54), none, .pure, .indexAddr 3 (.tmp 52) (.tmp 53)⟩ (.step ⟨(some 55), none, .pure, .fieldAddr 0 (.tmp 54)⟩ (.step ⟨(some 56), none, .pure, .load false 1 (.tmp 55)⟩ (.step ⟨(some 57), none, .read, .call 34 [(.tmp 56)]⟩ (.step ⟨(some 58), none, .pure, .fieldAddr 4 (.tmp 1)⟩ (.step ⟨(some 59), none, .read, .load false 1 (.tmp 58)⟩ (.step ⟨(some 60), none, .pure, .mv (.tmp 4)⟩ (.step ⟨(some 61), none, .pure, .indexAddr 3 (.tmp 59) (.tmp 60)⟩ (.step ⟨(some 62), none, .pure, .fieldAddr 2 (.tmp 61)⟩ (.step ⟨(some 63), none, .pure, .load false 1 (.tmp 62)⟩ (.step ⟨(some 64), none, .read, .call 34 [(.tmp 63)]⟩ (.step ⟨(some 65), none, .pure, .indexAddr 3 (.tmp 46) (.tmp 47)⟩ (.step ⟨(some 66), none, .pure, .fieldAddr 0 (.tmp 65)⟩ (.alt ⟨(some 49), none, .read, .load false 1 (.tmp 48)⟩ (.alt ⟨none, none, .act, .store 1 (.tmp 66) (.tmp 57)⟩ (.step ⟨(some 67), none, .pure, .indexAddr 3 (.tmp 49) (.tmp 50)⟩ (.step ⟨(some 68), none, .pure, .fieldAddr 2 (.tmp 67)⟩ (.alt ⟨none, none, .act, .store 1 (.tmp 68) (.tmp 64)⟩ .done
    .stop)))
    .stop)
    (.alt ⟨none, none, .act, .store 1 (.tmp 66) (.tmp 57)⟩ (.step ⟨(some 49), none, .read, .load false 1 (.tmp 48)⟩ (.step ⟨(some 67), none, .pure, .indexAddr 3 (.tmp 49) (.tmp 50)⟩ (.step ⟨(some 68), none, .pure, .fieldAddr 2 (.tmp 67)⟩ (.alt ⟨none, none, .act, .store 1 (.tmp 68) (.tmp 64)⟩ .done
    .stop))))
    .stop))))))))))))))))))))))))))
  (.region [
    ⟨(some 69), none, .act, .bin .add (.tmp 42) (.const (.int .i64 1))⟩,
    ⟨(some 42), none, .act, .mv (.tmp 69)⟩]))))
def r28 : RCode :=
  (.seq (.region [
    ⟨(some 1), none, .act, .box (.tmp 0)⟩,
    ⟨(some 2), none, .act, .alloc [(.int .i64 0), (.int .i64 0), (.slice none 0 0), (.bool false), (.slice none 0 0), (.string ⟨#[]⟩), (.int .i64 0), (.string ⟨#[]⟩), (.slice none 0 0), (.int .i64 0), (.slice none 0 0)]⟩])
  (.seq (.region [
    ⟨(some 5), none, .pure, .fieldAddr 2 (.tmp 1)⟩,
    ⟨(some 6), none, .read, .load false 1 (.tmp 5)⟩,
    ⟨(some 7), none, .read, .call 51 [(.tmp 6)]⟩,
    ⟨(some 8), none, .pure, .fieldAddr 4 (.tmp 1)⟩,
    ⟨(some 9), none, .read, .load false 1 (.tmp 8)⟩,
    ⟨(some 11), none, .pure, .fieldAddr 2 (.tmp 1)⟩,
    ⟨(some 10), none, .act, .call 52 [(.tmp 9)]⟩,
    ⟨none, none, .act, .store 1 (.tmp 11) (.tmp 7)⟩,
    ⟨(some 12), none, .pure, .fieldAddr 4 (.tmp 1)⟩,
    ⟨none, none, .act, .store 1 (.tmp 12) (.tmp 10)⟩])
  (.seq (.seq (.region [
    ⟨(some 13), none, .act, .fieldAddr 2 (.tmp 1)⟩,
    ⟨(some 14), none, .act, .load false 1 (.tmp 13)⟩,
    ⟨(some 15), none, .act, .len (.tmp 14)⟩,
    ⟨(some 16), none, .act, .mv (.const (.int .i64 0))⟩])
  (.block 0
   (.loop r28l0)))
  (.seq (.seq (.region [
    ⟨(some 39), none, .act, .fieldAddr 4 (.tmp 1)⟩,
    ⟨(some 40), none, .act, .load false 1 (.tmp 39)⟩,
    ⟨(some 41), none, .act, .len (.tmp 40)⟩,
    ⟨(some 42), none, .act, .mv (.const (.int .i64 0))⟩])
  (.block 2
   (.loop r28l1)))
  (.seq (.region [
    ⟨(some 70), none, .pure, .fieldAddr 6 (.tmp 1)⟩,
    ⟨(some 71), none, .pure, .fieldAddr 2 (.tmp 70)⟩,
    ⟨(some 72), none, .read, .load false 1 (.tmp 71)⟩,
    ⟨(some 73), none, .read, .call 53 [(.tmp 72)]⟩,
    ⟨(some 74), none, .pure, .fieldAddr 6 (.tmp 1)⟩,
    ⟨(some 75), none, .pure, .fieldAddr 4 (.tmp 74)⟩,
    ⟨(some 76), none, .read, .load false 1 (.tmp 75)⟩,
    ⟨(some 78), none, .pure, .fieldAddr 6 (.tmp 1)⟩,
    ⟨(some 79), none, .pure, .fieldAddr 2 (.tmp 78)⟩,
    ⟨(some 77), none, .act, .call 54 [(.tmp 76)]⟩,
    ⟨none, none, .act, .store 1 (.tmp 79) (.tmp 73)⟩,
    ⟨(some 80), none, .pure, .fieldAddr 6 (.tmp 1)⟩,
    ⟨(some 81), none, .pure, .fieldAddr 4 (.tmp 80)⟩,
    ⟨none, none, .act, .store 1 (.tmp 81) (.tmp 77)⟩])
  (.seq (.region [
    ⟨(some 82), none, .act, .load true 11 (.tmp 1)⟩,
    ⟨none, none, .act, .store 11 (.tmp 2) (.tmp 82)⟩])
  .ret))))))
theorem res28 : ∃ c, Tryz.f28.body = some c ∧ resCode Tryz.prog 83 c = some r28 := ⟨_, rfl, by kernel_rfl⟩
theorem rr28 : resRes Tryz.prog Tryz.f28.results.toList = some [.cell 2 true 11] := by kernel_rfl
theorem fok28 : FOk Tryz.prog 28 ⟨r28, 83, [.cell 2 true 11]⟩ := by
  obtain ⟨c, h1, h2⟩ := res28
  exact ⟨by kernel_rfl, _, c, Tryz.func28, h1, Tryz.ntmps28, ⟨_, h2⟩, rr28⟩
def r51 : RCode :=
  (.seq (.region [
    ⟨(some 2), none, .act, .mv (.const (.slice none 0 0))⟩])
  (.seq (.seq (.region [
    ⟨(some 3), none, .act, .mv (.tmp 0)⟩,
    ⟨(some 4), none, .act, .eq false .slice (.tmp 3) (.const (.slice none 0 0))⟩])
  (.cond (.tmp 4)
   (.seq (.region [
     ⟨(some 2), none, .act, .mv (.const (.slice none 0 0))⟩])
   .ret)
   .skip))
  (.seq (.region [
    ⟨(some 5), none, .act, .buildSl 2 [(.slice none 0 0), (.slice none 0 0)] 0 []⟩,
    ⟨(some 6), none, .act, .mv (.tmp 0)⟩,
    ⟨(some 7), none, .act, .append 2 48 [(.slice none 0 0), (.slice none 0 0)] (.tmp 5) (.tmp 6)⟩,
    ⟨(some 2), none, .act, .mv (.tmp 7)⟩])
  .ret)))
theorem res51 : ∃ c, Tryz.f51.body = some c ∧ resCode Tryz.prog 8 c = some r51 := ⟨_, rfl, by kernel_rfl⟩
theorem rr51 : resRes Tryz.prog Tryz.f51.results.toList = some [.tmp 2] := by kernel_rfl
theorem fok51 : FOk Tryz.prog 51 ⟨r51, 8, [.tmp 2]⟩ := by
  obtain ⟨c, h1, h2⟩ := res51
  exact ⟨by kernel_rfl, _, c, Tryz.func51, h1, Tryz.ntmps51, ⟨_, h2⟩, rr51⟩
def r52 : RCode :=
  (.seq (.region [
    ⟨(some 2), none, .act, .mv (.const (.slice none 0 0))⟩])
  (.seq (.seq (.region [
    ⟨(some 3), none, .act, .mv (.tmp 0)⟩,
    ⟨(some 4), none, .act, .eq false .slice (.tmp 3) (.const (.slice none 0 0))⟩])
  (.cond (.tmp 4)
   (.seq (.region [
     ⟨(some 2), none, .act, .mv (.const (.slice none 0 0))⟩])
   .ret)
   .skip))
  (.seq (.region [
    ⟨(some 5), none, .act, .buildSl 3 [(.slice none 0 0), (.bool false), (.slice none 0 0)] 0 []⟩,
    ⟨(some 6), none, .act, .mv (.tmp 0)⟩,
    ⟨(some 7), none, .act, .append 3 56 [(.slice none 0 0), (.bool false), (.slice none 0 0)] (.tmp 5) (.tmp 6)⟩,
    ⟨(some 2), none, .act, .mv (.tmp 7)⟩])
  .ret)))
theorem res52 : ∃ c, Tryz.f52.body = some c ∧ resCode Tryz.prog 8 c = some r52 := ⟨_, rfl, by kernel_rfl⟩
theorem rr52 : resRes Tryz.prog Tryz.f52.results.toList = some [.tmp 2] := by kernel_rfl
theorem fok52 : FOk Tryz.prog 52 ⟨r52, 8, [.tmp 2]⟩ := by
  obtain ⟨c, h1, h2⟩ := res52
  exact ⟨by kernel_rfl, _, c, Tryz.func52, h1, Tryz.ntmps52, ⟨_, h2⟩, rr52⟩
def r53 : RCode :=
  (.seq (.region [
    ⟨(some 2), none, .act, .mv (.const (.slice none 0 0))⟩])
  (.seq (.seq (.region [
    ⟨(some 3), none, .act, .mv (.tmp 0)⟩,
    ⟨(some 4), none, .act, .eq false .slice (.tmp 3) (.const (.slice none 0 0))⟩])
  (.cond (.tmp 4)
   (.seq (.region [
     ⟨(some 2), none, .act, .mv (.const (.slice none 0 0))⟩])
   .ret)
   .skip))
  (.seq (.region [
    ⟨(some 5), none, .act, .buildSl 3 [(.string ⟨#[]⟩), (.int .i64 0), (.bool false)] 0 []⟩,
    ⟨(some 6), none, .act, .mv (.tmp 0)⟩,
    ⟨(some 7), none, .act, .append 3 32 [(.string ⟨#[]⟩), (.int .i64 0), (.bool false)] (.tmp 5) (.tmp 6)⟩,
    ⟨(some 2), none, .act, .mv (.tmp 7)⟩])
  .ret)))
theorem res53 : ∃ c, Tryz.f53.body = some c ∧ resCode Tryz.prog 8 c = some r53 := ⟨_, rfl, by kernel_rfl⟩
theorem rr53 : resRes Tryz.prog Tryz.f53.results.toList = some [.tmp 2] := by kernel_rfl
theorem fok53 : FOk Tryz.prog 53 ⟨r53, 8, [.tmp 2]⟩ := by
  obtain ⟨c, h1, h2⟩ := res53
  exact ⟨by kernel_rfl, _, c, Tryz.func53, h1, Tryz.ntmps53, ⟨_, h2⟩, rr53⟩
def r54 : RCode :=
  (.seq (.region [
    ⟨(some 2), none, .act, .mv (.const (.slice none 0 0))⟩])
  (.seq (.seq (.region [
    ⟨(some 3), none, .act, .mv (.tmp 0)⟩,
    ⟨(some 4), none, .act, .eq false .slice (.tmp 3) (.const (.slice none 0 0))⟩])
  (.cond (.tmp 4)
   (.seq (.region [
     ⟨(some 2), none, .act, .mv (.const (.slice none 0 0))⟩])
   .ret)
   .skip))
  (.seq (.region [
    ⟨(some 5), none, .act, .buildSl 1 [(.int .i64 0)] 0 []⟩,
    ⟨(some 6), none, .act, .mv (.tmp 0)⟩,
    ⟨(some 7), none, .act, .append 1 8 [(.int .i64 0)] (.tmp 5) (.tmp 6)⟩,
    ⟨(some 2), none, .act, .mv (.tmp 7)⟩])
  .ret)))
theorem res54 : ∃ c, Tryz.f54.body = some c ∧ resCode Tryz.prog 8 c = some r54 := ⟨_, rfl, by kernel_rfl⟩
theorem rr54 : resRes Tryz.prog Tryz.f54.results.toList = some [.tmp 2] := by kernel_rfl
theorem fok54 : FOk Tryz.prog 54 ⟨r54, 8, [.tmp 2]⟩ := by
  obtain ⟨c, h1, h2⟩ := res54
  exact ⟨by kernel_rfl, _, c, Tryz.func54, h1, Tryz.ntmps54, ⟨_, h2⟩, rr54⟩
def r30 : RCode :=
  (.seq (.region [
    ⟨(some 4), none, .act, .mv (.const (.int .i64 0))⟩])
  (.seq (.region [
    ⟨(some 6), none, .act, .mv (.tmp 1)⟩,
    ⟨(some 7), none, .act, .nilCheck (.tmp 6)⟩,
    ⟨(some 8), none, .act, .fieldAddr 8 (.tmp 7)⟩,
    ⟨(some 9), none, .act, .load true 11 (.tmp 8)⟩,
    ⟨(some 5), none, .act, .alloc [(.int .i64 0), (.int .i64 0), (.slice none 0 0), (.bool false), (.slice none 0 0), (.string ⟨#[]⟩), (.int .i64 0), (.string ⟨#[]⟩), (.slice none 0 0), (.int .i64 0), (.slice none 0 0)]⟩,
    ⟨none, none, .act, .store 11 (.tmp 5) (.tmp 9)⟩])
  (.seq (.seq (.region [
    ⟨(some 10), none, .act, .fieldAddr 0 (.tmp 5)⟩,
    ⟨(some 11), none, .act, .load false 1 (.tmp 10)⟩])
  (.block 0
   (.seq (.region [
     ⟨(some 13), none, .act, .eq false .int (.tmp 11) (.const (.int .i64 1))⟩,
     ⟨(some 12), none, .act, .mv (.tmp 13)⟩])
   (.cond (.tmp 12)
    (.seq (.seq (.region [
      ⟨(some 14), none, .act, .fieldAddr 1 (.tmp 5)⟩,
      ⟨(some 15), none, .act, .load false 1 (.tmp 14)⟩,
      ⟨(some 16), none, .act, .bin .lss (.tmp 15) (.const (.int .i64 1))⟩,
      ⟨(some 17), none, .act, .mv (.tmp 16)⟩,
      ⟨(some 18), (some (17, false)), .act, .fieldAddr 1 (.tmp 5)⟩,
      ⟨(some 19), (some (17, false)), .act, .load false 1 (.tmp 18)⟩,
      ⟨(some 20), (some (17, false)), .act, .bin .gtr (.tmp 19) (.const (.int .i64 4))⟩,
      ⟨(some 21), none, .act, .pick (.tmp 17) (.const (.bool true)) (.tmp 20)⟩])
    (.cond (.tmp 21)
     (.seq (.region [
       ⟨(some 4), none, .act, .mv (.const (.int .i64 1))⟩])
     .ret)
     .skip))
    (.seq (.seq (.region [
      ⟨(some 22), none, .act, .mv (.tmp 1)⟩,
      ⟨(some 23), none, .act, .nilCheck (.tmp 22)⟩,
      ⟨(some 24), none, .act, .fieldAddr 0 (.tmp 23)⟩,
      ⟨(some 25), none, .act, .load false 1 (.tmp 24)⟩,
      ⟨(some 26), none, .act, .eq true .int (.tmp 25) (.const (.int .u64 0))⟩])
    (.cond (.tmp 26)
     (.seq (.region [
       ⟨(some 4), none, .act, .mv (.const (.int .i64 150))⟩])
     .ret)
     .skip))
    (.seq (.region [
      ⟨(some 27), none, .act, .mv (.tmp 1)⟩,
      ⟨(some 28), none, .act, .nilCheck (.tmp 27)⟩,
      ⟨(some 29), none, .act, .fieldAddr 19 (.tmp 28)⟩,
      ⟨none, none, .act, .store 1 (.tmp 29) (.const (.int .i64 1))⟩])
    (.seq (.region [
      ⟨(some 4), none, .act, .mv (.const (.int .i64 0))⟩])
    .ret))))
    (.seq (.region [
      ⟨(some 31), none, .act, .eq false .int (.tmp 11) (.const (.int .i64 8))⟩,
      ⟨(some 30), none, .act, .mv (.tmp 31)⟩])
    (.cond (.tmp 30)
     (.seq (.region [
       ⟨(some 32), none, .act, .mv (.tmp 1)⟩,
       ⟨(some 33), none, .act, .nilCheck (.tmp 32)⟩,
       ⟨(some 34), none, .act, .fieldAddr 19 (.tmp 33)⟩,
       ⟨none, none, .act, .store 1 (.tmp 34) (.const (.int .i64 2))⟩])
     (.seq (.region [
       ⟨(some 4), none, .act, .mv (.const (.int .i64 0))⟩])
     .ret))
     (.seq (.region [
       ⟨(some 36), none, .act, .eq false .int (.tmp 11) (.const (.int .i64 9))⟩,
       ⟨(some 35), none, .act, .mv (.tmp 36)⟩])
     (.cond (.tmp 35)
      (.seq (.region [
        ⟨(some 37), none, .act, .mv (.tmp 1)⟩,
        ⟨(some 38), none, .act, .nilCheck (.tmp 37)⟩,
        ⟨(some 39), none, .act, .fieldAddr 19 (.tmp 38)⟩,
        ⟨none, none, .act, .store 1 (.tmp 39) (.const (.int .i64 3))⟩])
      (.seq (.region [
        ⟨(some 4), none, .act, .mv (.const (.int .i64 0))⟩])
      .ret))
      .skip))))))))
  (.seq (.seq (.region [
    ⟨(some 40), none, .act, .fieldAddr 0 (.tmp 5)⟩,
    ⟨(some 41), none, .act, .load false 1 (.tmp 40)⟩,
    ⟨(some 42), none, .act, .bin .lss (.tmp 41) (.const (.int .i64 1))⟩,
    ⟨(some 43), none, .act, .mv (.tmp 42)⟩,
    ⟨(some 44), (some (43, false)), .act, .fieldAddr 0 (.tmp 5)⟩,
    ⟨(some 45), (some (43, false)), .act, .load false 1 (.tmp 44)⟩,
    ⟨(some 46), (some (43, false)), .act, .bin .gtr (.tmp 45) (.const (.int .i64 9))⟩,
    ⟨(some 47), none, .act, .pick (.tmp 43) (.const (.bool true)) (.tmp 46)⟩])
  (.cond (.tmp 47)
   (.seq (.seq (.region [
     ⟨(some 48), none, .act, .mv (.tmp 1)⟩,
     ⟨(some 49), none, .act, .nilCheck (.tmp 48)⟩,
     ⟨(some 50), none, .act, .fieldAddr 0 (.tmp 49)⟩,
     ⟨(some 51), none, .act, .load false 1 (.tmp 50)⟩,
     ⟨(some 52), none, .act, .eq false .int (.tmp 51) (.const (.int .u64 0))⟩])
   (.cond (.tmp 52)
    (.seq (.region [
      ⟨(some 4), none, .act, .mv (.const (.int .i64 150))⟩])
    .ret)
    .skip))
   (.seq (.region [
     ⟨(some 4), none, .act, .mv (.const (.int .i64 1))⟩])
   .ret))
   .skip))
  (.seq (.seq (.region [
    ⟨(some 53), none, .act, .mv (.tmp 1)⟩,
    ⟨(some 54), none, .act, .nilCheck (.tmp 53)⟩,
    ⟨(some 55), none, .act, .fieldAddr 0 (.tmp 54)⟩,
    ⟨(some 56), none, .act, .load false 1 (.tmp 55)⟩,
    ⟨(some 57), none, .act, .eq false .int (.tmp 56) (.const (.int .u64 0))⟩])
  (.cond (.tmp 57)
   (.seq (.region [
     ⟨(some 4), none, .act, .mv (.const (.int .i64 150))⟩])
   .ret)
   .skip))
  (.seq (.seq (.region [
    ⟨(some 58), none, .act, .fieldAddr 0 (.tmp 5)⟩,
    ⟨(some 59), none, .act, .load false 1 (.tmp 58)⟩])
  (.block 1
   (.seq (.region [
     ⟨(some 61), none, .act, .eq false .int (.tmp 59) (.const (.int .i64 6))⟩,
     ⟨(some 60), none, .act, .mv (.tmp 61)⟩])
   (.cond (.tmp 60)
    (.seq (.region [
      ⟨(some 62), none, .pure, .mv (.tmp 1)⟩,
      ⟨(some 63), none, .pure, .mv (.tmp 1)⟩,
      ⟨(some 64), none, .pure, .nilCheck (.tmp 63)⟩,
      ⟨(some 65), none, .pure, .fieldAddr 4 (.tmp 64)⟩,
      ⟨(some 66), none, .read, .load false 1 (.tmp 65)⟩,
      ⟨(some 67), none, .pure, .fieldAddr 5 (.tmp 5)⟩,
      ⟨(some 68), none, .read, .load false 1 (.tmp 67)⟩,
      ⟨(some 69), none, .pure, .mv (.tmp 1)⟩,
      ⟨(some 70), none, .pure, .nilCheck (.tmp 69)⟩,
      ⟨(some 71), none, .pure, .fieldAddr 3 (.tmp 70)⟩,
      ⟨(some 72), none, .read, .load false 1 (.tmp 71)⟩,
      ⟨(some 73), none, .pure, .len (.tmp 72)⟩,
      ⟨(some 74), none, .pure, .build [(.string ⟨#[]⟩), (.int .i64 0)] [(0, 1, (.tmp 68)), (1, 1, (.tmp 73))]⟩,
      ⟨(some 75), none, .pure, .buildSl 2 [(.string ⟨#[]⟩), (.int .i64 0)] 1 [(0, (.tmp 74))]⟩,
      ⟨(some 76), none, .act, .append 2 24 [(.string ⟨#[]⟩), (.int .i64 0)] (.tmp 66) (.tmp 75)⟩,
      ⟨(some 77), none, .pure, .nilCheck (.tmp 62)⟩,
      ⟨(some 78), none, .pure, .fieldAddr 4 (.tmp 77)⟩,
      ⟨none, none, .act, .store 1 (.tmp 78) (.tmp 76)⟩])
    (.region [
      ⟨(some 79), none, .act, .mv (.tmp 1)⟩,
      ⟨(some 80), none, .act, .build [(.int .i64 0), (.slice none 0 0), (.slice none 0 0), (.int .u64 0)] []⟩,
      ⟨(some 81), none, .act, .call 40 [(.tmp 79), (.tmp 80)]⟩]))
    (.seq (.region [
      ⟨(some 83), none, .act, .eq false .int (.tmp 59) (.const (.int .i64 7))⟩,
      ⟨(some 82), none, .act, .mv (.tmp 83)⟩])
    (.cond (.tmp 82)
     (.seq (.region [
       ⟨(some 84), none, .act, .mv (.tmp 1)⟩,
       ⟨(some 85), none, .act, .fieldAddr 5 (.tmp 5)⟩,
       ⟨(some 86), none, .act, .load false 1 (.tmp 85)⟩,
       ⟨(some 87), none, .act, .call 55 [(.tmp 84), (.tmp 86)]⟩,
       ⟨(some 4), none, .act, .mv (.tmp 87)⟩])
     .ret)
     (.seq (.region [
       ⟨(some 89), none, .act, .eq false .int (.tmp 59) (.const (.int .i64 3))⟩,
       ⟨(some 88), none, .act, .mv (.tmp 89)⟩])
     (.cond (.tmp 88)
      (.region [
        ⟨(some 90), none, .act, .mv (.tmp 0)⟩,
        ⟨(some 91), none, .act, .mv (.tmp 1)⟩,
        ⟨(some 92), none, .act, .call 56 [(.tmp 90), (.tmp 91)]⟩])
      (.seq (.region [
        ⟨(some 94), none, .act, .eq false .int (.tmp 59) (.const (.int .i64 2))⟩,
        ⟨(some 93), none, .act, .mv (.tmp 94)⟩])
      (.cond (.tmp 93)
       (.region [
         ⟨(some 95), none, .act, .mv (.tmp 0)⟩,
         ⟨(some 96), none, .act, .mv (.tmp 1)⟩,
         ⟨(some 97), none, .act, .call 57 [(.tmp 95), (.tmp 96)]⟩])
       (.seq (.region [
         ⟨(some 99), none, .act, .eq false .int (.tmp 59) (.const (.int .i64 4))⟩,
         ⟨(some 98), none, .act, .mv (.tmp 99)⟩])
       (.cond (.tmp 98)
        (.region [
          ⟨(some 100), none, .act, .mv (.tmp 0)⟩,
          ⟨(some 101), none, .act, .mv (.tmp 1)⟩,
          ⟨(some 102), none, .act, .call 58 [(.tmp 100), (.tmp 101)]⟩])
        (.seq (.region [
          ⟨(some 104), none, .act, .eq false .int (.tmp 59) (.const (.int .i64 5))⟩,
          ⟨(some 103), none, .act, .mv (.tmp 104)⟩])
        (.cond (.tmp 103)
         (.region [
           ⟨(some 105), none, .act, .mv (.tmp 0)⟩,
           ⟨(some 106), none, .act, .mv (.tmp 1)⟩,
           ⟨(some 107), none, .act, .build [(.int .i64 0), (.slice none 0 0), (.slice none 0 0), (.int .u64 0)] []⟩,
           ⟨(some 108), none, .act, .call 59 [(.tmp 105), (.tmp 106), (.tmp 107)]⟩])
         .skip))))))))))))))
  (.seq (.region [
    ⟨(some 4), none, .act, .mv (.const (.int .i64 0))⟩])
  .ret)))))))
theorem res30 : ∃ c, Tryz.f30.body = some c ∧ resCode Tryz.prog 109 c = some r30 := ⟨_, rfl, by kernel_rfl⟩
theorem rr30 : resRes Tryz.prog Tryz.f30.results.toList = some [.tmp 4] := by kernel_rfl
theorem fok30 : FOk Tryz.prog 30 ⟨r30, 109, [.tmp 4]⟩ := by
  obtain ⟨c, h1, h2⟩ := res30
  exact ⟨by kernel_rfl, _, c, Tryz.func30, h1, Tryz.ntmps30, ⟨_, h2⟩, rr30⟩
def r29 : RCode :=
  (.seq (.region [
    ⟨(some 4), none, .act, .mv (.tmp 1)⟩,
    ⟨(some 5), none, .act, .eq true .int (.tmp 4) (.const (.int .i64 0))⟩])
  (.cond (.tmp 5)
   (.region [
     ⟨(some 6), none, .act, .mv (.tmp 0)⟩,
     ⟨(some 7), none, .act, .mv (.tmp 1)⟩,
     ⟨(some 8), none, .act, .build [(.int .i64 0), (.slice none 0 0), (.slice none 0 0), (.int .u64 0)] [(0, 1, (.tmp 7))]⟩,
     ⟨(some 9), none, .act, .call 40 [(.tmp 6), (.tmp 8)]⟩])
   .skip))
theorem res29 : ∃ c, Tryz.f29.body = some c ∧ resCode Tryz.prog 10 c = some r29 := ⟨_, rfl, by kernel_rfl⟩
theorem rr29 : resRes Tryz.prog Tryz.f29.results.toList = some [] := by kernel_rfl
theorem fok29 : FOk Tryz.prog 29 ⟨r29, 10, []⟩ := by
  obtain ⟨c, h1, h2⟩ := res29
  exact ⟨by kernel_rfl, _, c, Tryz.func29, h1, Tryz.ntmps29, ⟨_, h2⟩, rr29⟩
def r40 : RCode :=
  (.seq (.region [
    ⟨(some 3), none, .act, .box (.tmp 1)⟩])
  (.region [
    ⟨(some 4), none, .act, .mv (.tmp 0)⟩,
    ⟨(some 5), none, .act, .mv (.tmp 0)⟩,
    ⟨(some 6), none, .act, .load true 4 (.tmp 3)⟩,
    ⟨(some 7), none, .act, .nilCheck (.tmp 4)⟩,
    ⟨(some 8), none, .act, .fieldAddr 20 (.tmp 7)⟩,
    ⟨none, none, .act, .store 4 (.tmp 8) (.tmp 6)⟩,
    ⟨(some 9), none, .act, .nilCheck (.tmp 5)⟩,
    ⟨(some 10), none, .act, .fieldAddr 19 (.tmp 9)⟩,
    ⟨none, none, .act, .store 1 (.tmp 10) (.const (.int .i64 13))⟩]))
theorem res40 : ∃ c, Tryz.f40.body = some c ∧ resCode Tryz.prog 11 c = some r40 := ⟨_, rfl, by kernel_rfl⟩
theorem rr40 : resRes Tryz.prog Tryz.f40.results.toList = some [] := by kernel_rfl
theorem fok40 : FOk Tryz.prog 40 ⟨r40, 11, []⟩ := by
  obtain ⟨c, h1, h2⟩ := res40
  exact ⟨by kernel_rfl, _, c, Tryz.func40, h1, Tryz.ntmps40, ⟨_, h2⟩, rr40⟩
def md17 : Nat → Bool := fun id => [3].contains id
def r17 : RCode :=
  (.seq (.region [
    ⟨(some 4), none, .act, .mv (.const (.bool false))⟩])
  (.seq (.region [
    ⟨(some 9), none, .act, .mv (.tmp 0)⟩,
    ⟨(some 10), none, .act, .call 14 [(.tmp 9)]⟩,
    ⟨(some 11), none, .act, .mv (.tmp 1)⟩,
    ⟨(some 12), none, .act, .call 8 [(.tmp 10), (.tmp 11)]⟩,
    ⟨(some 8), none, .act, .mv (.tmp 12)⟩,
    ⟨(some 13), none, .act, .extract (.tmp 8) 0⟩,
    ⟨(some 14), none, .act, .extract (.tmp 8) 1⟩,
    ⟨(some 15), none, .act, .extract (.tmp 8) 2⟩,
    ⟨(some 6), none, .act, .alloc [(.int .u64 0), (.int .u64 0), (.int .i64 0), (.int .u64 0), (.int .u64 0), (.bool false), (.int .u64 0), (.int .i64 0), (.int .i64 0), (.slice none 0 0), (.slice none 0 0), (.slice none 0 0), (.slice none 0 0), (.slice none 0 0), (.slice none 0 0), (.slice none 0 0), (.int .i64 0), (.string ⟨#[]⟩), (.slice none 0 0), (.int .i64 0), (.slice none 0 0)]⟩,
    ⟨(some 5), none, .act, .mv (.tmp 13)⟩,
    ⟨none, none, .act, .store 21 (.tmp 6) (.tmp 14)⟩,
    ⟨(some 7), none, .act, .mv (.tmp 15)⟩])
  (.seq (.seq (.region [
    ⟨(some 16), none, .act, .mv (.tmp 7)⟩])
  (.cond (.tmp 16)
   (.regionT (.step ⟨(some 17), none, .pure, .mv (.tmp 0)⟩ (.step ⟨(some 18), none, .pure, .nilCheck (.tmp 17)⟩ (.step ⟨(some 19), none, .pure, .fieldAddr 0 (.tmp 18)⟩ (.step ⟨(some 21), none, .pure, .mv (.tmp 1)⟩ (.step ⟨(some 22), none, .pure, .mv (.tmp 0)⟩ (.step ⟨(some 23), none, .pure, .mv (.tmp 5)⟩ (.step ⟨(some 24), none, .read, .load true 21 (.tmp 6)⟩ (.alt ⟨(some 20), none, .read, .load false 1 (.tmp 19)⟩ (.alt ⟨(some 25), none, .act, .call 35 [(.tmp 22), (.tmp 23), (.tmp 24)]⟩ (.alt ⟨(some 26), none, .act, .call 6 [(.tmp 20), (.tmp 21), (.tmp 25)]⟩ .done
    .stop)
    .stop)
    (.alt ⟨(some 25), none, .act, .call 35 [(.tmp 22), (.tmp 23), (.tmp 24)]⟩ (.step ⟨(some 20), none, .read, .load false 1 (.tmp 19)⟩ (.alt ⟨(some 26), none, .act, .call 6 [(.tmp 20), (.tmp 21), (.tmp 25)]⟩ .done
    .stop))
    .stop))))))))))
   .skip))
  (.seq (.region [
    ⟨(some 27), none, .act, .mv (.tmp 7)⟩,
    ⟨(some 4), none, .act, .mv (.tmp 27)⟩])
  .ret))))
theorem res17 : ∃ c, Tryz.f17.body = some c ∧ resCodeM Tryz.prog 28 md17 c = some r17 := ⟨_, rfl, by kernel_rfl⟩
theorem rr17 : resRes Tryz.prog Tryz.f17.results.toList = some [.tmp 4] := by kernel_rfl
theorem fok17 : FOk Tryz.prog 17 ⟨r17, 28, [.tmp 4]⟩ := by
  obtain ⟨c, h1, h2⟩ := res17
  exact ⟨by kernel_rfl, _, c, Tryz.func17, h1, Tryz.ntmps17, ⟨_, h2⟩, rr17⟩
def r8 : RCode :=
  (.seq (.region [
    ⟨(some 4), none, .act, .mv (.const (.int .i64 0))⟩,
    ⟨(some 5), none, .act, .alloc [(.int .u64 0), (.int .u64 0), (.int .i64 0), (.int .u64 0), (.int .u64 0), (.bool false), (.int .u64 0), (.int .i64 0), (.int .i64 0), (.slice none 0 0), (.slice none 0 0), (.slice none 0 0), (.slice none 0 0), (.slice none 0 0), (.slice none 0 0), (.slice none 0 0), (.int .i64 0), (.string ⟨#[]⟩), (.slice none 0 0), (.int .i64 0), (.slice none 0 0)]⟩,
    ⟨(some 6), none, .act, .mv (.const (.bool false))⟩])
  (.seq (.seq (.region [
    ⟨(some 9), none, .act, .mv (.tmp 0)⟩,
    ⟨(some 10), none, .act, .call 20 [(.tmp 9)]⟩,
    ⟨(some 11), none, .act, .un .not (.tmp 10)⟩,
    ⟨(some 12), none, .act, .mv (.tmp 11)⟩,
    ⟨(some 13), (some (12, false)), .act, .mv (.tmp 0)⟩,
    ⟨(some 14), (some (12, false)), .act, .nilCheck (.tmp 13)⟩,
    ⟨(some 15), (some (12, false)), .act, .fieldAddr 1 (.tmp 14)⟩,
    ⟨(some 16), (some (12, false)), .act, .load false 1 (.tmp 15)⟩,
    ⟨(some 17), (some (12, false)), .act, .mv (.tmp 1)⟩,
    ⟨(some 18), (some (12, false)), .act, .lookup 30 (.pointer none) (.tmp 16) (.tmp 17) false⟩,
    ⟨(some 19), (some (12, false)), .act, .eq false .ptr (.tmp 18) (.const (.pointer none))⟩,
    ⟨(some 20), none, .act, .pick (.tmp 12) (.const (.bool true)) (.tmp 19)⟩,
    ⟨(some 21), none, .act, .mv (.tmp 20)⟩,
    ⟨(some 22), (some (21, false)), .act, .mv (.tmp 0)⟩,
    ⟨(some 23), (some (21, false)), .act, .nilCheck (.tmp 22)⟩,
    ⟨(some 24), (some (21, false)), .act, .fieldAddr 1 (.tmp 23)⟩,
    ⟨(some 25), (some (21, false)), .act, .load false 1 (.tmp 24)⟩,
    ⟨(some 26), (some (21, false)), .act, .mv (.tmp 1)⟩,
    ⟨(some 27), (some (21, false)), .act, .lookup 30 (.pointer none) (.tmp 25) (.tmp 26) false⟩,
    ⟨(some 28), (some (21, false)), .act, .nilCheck (.tmp 27)⟩,
    ⟨(some 29), (some (21, false)), .act, .fieldAddr 6 (.tmp 28)⟩,
    ⟨(some 30), (some (21, false)), .act, .load false 1 (.tmp 29)⟩,
    ⟨(some 31), (some (21, false)), .act, .un .not (.tmp 30)⟩,
    ⟨(some 32), none, .act, .pick (.tmp 21) (.const (.bool true)) (.tmp 31)⟩])
  (.cond (.tmp 32)
   (.seq (.region [
     ⟨(some 33), none, .act, .build [(.int .u64 0), (.int .u64 0), (.int .i64 0), (.int .u64 0), (.int .u64 0), (.bool false), (.int .u64 0), (.int .i64 0), (.int .i64 0), (.slice none 0 0), (.slice none 0 0), (.slice none 0 0), (.slice none 0 0), (.slice none 0 0), (.slice none 0 0), (.slice none 0 0), (.int .i64 0), (.string ⟨#[]⟩), (.slice none 0 0), (.int .i64 0), (.slice none 0 0)] []⟩,
     ⟨(some 4), none, .act, .mv (.const (.int .i64 0))⟩,
     ⟨none, none, .act, .store 21 (.tmp 5) (.tmp 33)⟩,
     ⟨(some 6), none, .act, .mv (.const (.bool false))⟩])
   .ret)
   .skip))
  (.seq (.region [
    ⟨(some 34), none, .act, .mv (.tmp 0)⟩,
    ⟨(some 35), none, .act, .nilCheck (.tmp 34)⟩,
    ⟨(some 36), none, .act, .fieldAddr 1 (.tmp 35)⟩,
    ⟨(some 37), none, .act, .load false 1 (.tmp 36)⟩,
    ⟨(some 38), none, .act, .mv (.tmp 1)⟩,
    ⟨(some 39), none, .act, .lookup 30 (.pointer none) (.tmp 37) (.tmp 38) false⟩,
    ⟨(some 7), none, .act, .mv (.tmp 39)⟩])
  (.seq (.seq (.region [
    ⟨(some 40), none, .act, .mv (.tmp 7)⟩,
    ⟨(some 41), none, .act, .nilCheck (.tmp 40)⟩,
    ⟨(some 42), none, .act, .fieldAddr 25 (.tmp 41)⟩,
    ⟨(some 43), none, .act, .load false 1 (.tmp 42)⟩])
  (.cond (.tmp 43)
   (.seq (.region [
     ⟨(some 44), none, .pure, .mv (.tmp 7)⟩,
     ⟨(some 45), none, .pure, .nilCheck (.tmp 44)⟩,
     ⟨(some 46), none, .pure, .fieldAddr 47 (.tmp 45)⟩,
     ⟨(some 47), none, .read, .load false 1 (.tmp 46)⟩,
     ⟨(some 48), none, .pure, .mv (.tmp 7)⟩,
     ⟨(some 49), none, .pure, .nilCheck (.tmp 48)⟩,
     ⟨(some 50), none, .pure, .fieldAddr 26 (.tmp 49)⟩,
     ⟨(some 51), none, .read, .load true 21 (.tmp 50)⟩,
     ⟨(some 4), none, .pure, .mv (.tmp 47)⟩,
     ⟨none, none, .act, .store 21 (.tmp 5) (.tmp 51)⟩,
     ⟨(some 6), none, .pure, .mv (.const (.bool true))⟩])
   .ret)
   .skip))
  (.seq (.region [
    ⟨(some 53), none, .act, .mv (.tmp 0)⟩,
    ⟨(some 54), none, .act, .mv (.tmp 7)⟩,
    ⟨(some 55), none, .act, .call 24 [(.tmp 53), (.tmp 54)]⟩,
    ⟨(some 52), none, .act, .mv (.tmp 55)⟩,
    ⟨(some 56), none, .act, .extract (.tmp 52) 0⟩,
    ⟨(some 57), none, .act, .extract (.tmp 52) 1⟩,
    ⟨(some 58), none, .act, .extract (.tmp 52) 2⟩,
    ⟨(some 8), none, .act, .mv (.tmp 56)⟩,
    ⟨none, none, .act, .store 21 (.tmp 5) (.tmp 57)⟩,
    ⟨(some 6), none, .act, .mv (.tmp 58)⟩])
  (.seq (.seq (.region [
    ⟨(some 59), none, .act, .mv (.tmp 6)⟩,
    ⟨(some 60), none, .act, .un .not (.tmp 59)⟩])
  (.cond (.tmp 60)
   (.seq (.region [
     ⟨(some 61), none, .act, .build [(.int .u64 0), (.int .u64 0), (.int .i64 0), (.int .u64 0), (.int .u64 0), (.bool false), (.int .u64 0), (.int .i64 0), (.int .i64 0), (.slice none 0 0), (.slice none 0 0), (.slice none 0 0), (.slice none 0 0), (.slice none 0 0), (.slice none 0 0), (.slice none 0 0), (.int .i64 0), (.string ⟨#[]⟩), (.slice none 0 0), (.int .i64 0), (.slice none 0 0)] []⟩,
     ⟨(some 4), none, .act, .mv (.const (.int .i64 0))⟩,
     ⟨none, none, .act, .store 21 (.tmp 5) (.tmp 61)⟩,
     ⟨(some 6), none, .act, .mv (.const (.bool false))⟩])
   .ret)
   .skip))
  (.seq (.region [
    ⟨(some 62), none, .act, .mv (.tmp 7)⟩,
    ⟨(some 63), none, .act, .nilCheck (.tmp 62)⟩,
    ⟨(some 64), none, .act, .fieldAddr 24 (.tmp 63)⟩,
    ⟨(some 65), none, .act, .load false 1 (.tmp 64)⟩,
    ⟨(some 66), none, .act, .bin .add (.tmp 65) (.const (.int .u64 1))⟩,
    ⟨(some 67), none, .act, .nilCheck (.tmp 62)⟩,
    ⟨(some 68), none, .act, .fieldAddr 24 (.tmp 67)⟩,
    ⟨none, none, .act, .store 1 (.tmp 68) (.tmp 66)⟩])
  (.seq (.regionT (.step ⟨(some 69), none, .pure, .mv (.tmp 1)⟩ (.step ⟨(some 70), none, .pure, .mv (.tmp 7)⟩ (.step ⟨(some 71), none, .pure, .nilCheck (.tmp 70)⟩ (.step ⟨(some 72), none, .pure, .fieldAddr 24 (.tmp 71)⟩ (.step ⟨(some 74), none, .pure, .fieldAddr 0 (.tmp 5)⟩ (.alt ⟨(some 73), none, .read, .load false 1 (.tmp 72)⟩ (.alt ⟨none, none, .act, .store 1 (.tmp 74) (.tmp 69)⟩ (.step ⟨(some 75), none, .pure, .fieldAddr 1 (.tmp 5)⟩ (.alt ⟨none, none, .act, .store 1 (.tmp 75) (.tmp 73)⟩ .done
    .stop))
    .stop)
    (.alt ⟨none, none, .act, .store 1 (.tmp 74) (.tmp 69)⟩ (.step ⟨(some 73), none, .read, .load false 1 (.tmp 72)⟩ (.step ⟨(some 75), none, .pure, .fieldAddr 1 (.tmp 5)⟩ (.alt ⟨none, none, .act, .store 1 (.tmp 75) (.tmp 73)⟩ .done
    .stop)))
    .stop))))))))
  (.seq (.regionT (.step ⟨(some 76), none, .pure, .mv (.tmp 7)⟩ (.step ⟨(some 77), none, .pure, .mv (.tmp 7)⟩ (.step ⟨(some 78), none, .pure, .mv (.tmp 7)⟩ (.step ⟨(some 79), none, .pure, .mv (.tmp 8)⟩ (.step ⟨(some 81), none, .pure, .nilCheck (.tmp 76)⟩ (.step ⟨(some 82), none, .pure, .fieldAddr 25 (.tmp 81)⟩ (.alt ⟨(some 80), none, .read, .load true 21 (.tmp 5)⟩ (.alt ⟨none, none, .act, .store 1 (.tmp 82) (.const (.bool true))⟩ (.step ⟨(some 83), none, .pure, .nilCheck (.tmp 77)⟩ (.step ⟨(some 84), none, .pure, .fieldAddr 47 (.tmp 83)⟩ (.alt ⟨none, none, .act, .store 1 (.tmp 84) (.tmp 79)⟩ (.step ⟨(some 85), none, .pure, .nilCheck (.tmp 78)⟩ (.step ⟨(some 86), none, .pure, .fieldAddr 26 (.tmp 85)⟩ (.alt ⟨none, none, .act, .store 21 (.tmp 86) (.tmp 80)⟩ .done
    .stop)))
    .stop)))
    .stop)
    (.alt ⟨none, none, .act, .store 1 (.tmp 82) (.const (.bool true))⟩ (.step ⟨(some 83), none, .pure, .nilCheck (.tmp 77)⟩ (.step ⟨(some 84), none, .pure, .fieldAddr 47 (.tmp 83)⟩ (.alt ⟨(some 80), none, .read, .load true 21 (.tmp 5)⟩ (.alt ⟨none, none, .act, .store 1 (.tmp 84) (.tmp 79)⟩ (.step ⟨(some 85), none, .pure, .nilCheck (.tmp 78)⟩ (.step ⟨(some 86), none, .pure, .fieldAddr 26 (.tmp 85)⟩ (.alt ⟨none, none, .act, .store 21 (.tmp 86) (.tmp 80)⟩ .done
    .stop)))
    .stop)
    (.alt ⟨none, none, .act, .store 1 (.tmp 84) (.tmp 79)⟩ (.step ⟨(some 80), none, .read, .load true 21 (.tmp 5)⟩ (.step ⟨(some 85), none, .pure, .nilCheck (.tmp 78)⟩ (.step ⟨(some 86), none, .pure, .fieldAddr 26 (.tmp 85)⟩ (.alt ⟨none, none, .act, .store 21 (.tmp 86) (.tmp 80)⟩ .done
    .stop))))
    .stop))))
    .stop)))))))))
  (.seq (.region [
    ⟨(some 87), none, .pure, .mv (.tmp 8)⟩,
    ⟨(some 88), none, .read, .load true 21 (.tmp 5)⟩,
    ⟨(some 4), none, .pure, .mv (.tmp 87)⟩,
    ⟨none, none, .act, .store 21 (.tmp 5) (.tmp 88)⟩,
    ⟨(some 6), none, .pure, .mv (.const (.bool true))⟩])
  .ret))))))))))
theorem res8 : ∃ c, Tryz.f8.body = some c ∧ resCode Tryz.prog 89 c = some r8 := ⟨_, rfl, by kernel_rfl⟩
theorem rr8 : resRes Tryz.prog Tryz.f8.results.toList = some [.tmp 4, .cell 5 true 21, .tmp 6] := by kernel_rfl
theorem fok8 : FOk Tryz.prog 8 ⟨r8, 89, [.tmp 4, .cell 5 true 21, .tmp 6]⟩ := by
  obtain ⟨c, h1, h2⟩ := res8
  exact ⟨by kernel_rfl, _, c, Tryz.func8, h1, Tryz.ntmps8, ⟨_, h2⟩, rr8⟩
def r24 : RCode :=
  (.seq (.region [
    ⟨(some 4), none, .act, .mv (.const (.int .i64 0))⟩,
    ⟨(some 5), none, .act, .alloc [(.int .u64 0), (.int .u64 0), (.int .i64 0), (.int .u64 0), (.int .u64 0), (.bool false), (.int .u64 0), (.int .i64 0), (.int .i64 0), (.slice none 0 0), (.slice none 0 0), (.slice none 0 0), (.slice none 0 0), (.slice none 0 0), (.slice none 0 0), (.slice none 0 0), (.int .i64 0), (.string ⟨#[]⟩), (.slice none 0 0), (.int .i64 0), (.slice none 0 0)]⟩,
    ⟨(some 6), none, .act, .mv (.const (.bool false))⟩])
  (.seq (.region [
    ⟨(some 8), none, .act, .mv (.tmp 1)⟩,
    ⟨(some 9), none, .act, .nilCheck (.tmp 8)⟩,
    ⟨(some 10), none, .act, .fieldAddr 0 (.tmp 9)⟩,
    ⟨(some 11), none, .act, .load false 1 (.tmp 10)⟩,
    ⟨(some 12), none, .act, .build [(.int .u64 0), (.int .u64 0), (.int .i64 0), (.int .u64 0), (.int .u64 0), (.bool false), (.int .u64 0), (.int .i64 0), (.int .i64 0), (.slice none 0 0), (.slice none 0 0), (.slice none 0 0), (.slice none 0 0), (.slice none 0 0), (.slice none 0 0), (.slice none 0 0), (.int .i64 0), (.string ⟨#[]⟩), (.slice none 0 0), (.int .i64 0), (.slice none 0 0)] [(3, 1, (.tmp 11))]⟩,
    ⟨(some 7), none, .act, .alloc [(.int .u64 0), (.int .u64 0), (.int .i64 0), (.int .u64 0), (.int .u64 0), (.bool false), (.int .u64 0), (.int .i64 0), (.int .i64 0), (.slice none 0 0), (.slice none 0 0), (.slice none 0 0), (.slice none 0 0), (.slice none 0 0), (.slice none 0 0), (.slice none 0 0), (.int .i64 0), (.string ⟨#[]⟩), (.slice none 0 0), (.int .i64 0), (.slice none 0 0)]⟩,
    ⟨none, none, .act, .store 21 (.tmp 7) (.tmp 12)⟩])
  (.seq (.seq (.region [
    ⟨(some 13), none, .act, .mv (.tmp 1)⟩,
    ⟨(some 14), none, .act, .nilCheck (.tmp 13)⟩,
    ⟨(some 15), none, .act, .fieldAddr 19 (.tmp 14)⟩,
    ⟨(some 16), none, .act, .load false 1 (.tmp 15)⟩])
  (.block 0
   (.seq (.region [
     ⟨(some 19), none, .act, .eq false .int (.tmp 16) (.const (.int .i64 1))⟩,
     ⟨(some 18), none, .act, .mv (.tmp 19)⟩])
   (.cond (.tmp 18)
    (.region [
      ⟨(some 20), none, .act, .fieldAddr 2 (.tmp 7)⟩,
      ⟨none, none, .act, .store 1 (.tmp 20) (.const (.int .i64 1))⟩])
    (.seq (.region [
      ⟨(some 22), none, .act, .eq false .int (.tmp 16) (.const (.int .i64 2))⟩,
      ⟨(some 21), none, .act, .mv (.tmp 22)⟩])
    (.cond (.tmp 21)
     (.region [
       ⟨(some 23), none, .act, .mv (.tmp 1)⟩,
       ⟨(some 24), none, .act, .nilCheck (.tmp 23)⟩,
       ⟨(some 25), none, .act, .fieldAddr 8 (.tmp 24)⟩,
       ⟨(some 26), none, .act, .fieldAddr 6 (.tmp 25)⟩,
       ⟨(some 27), none, .act, .load true 5 (.tmp 26)⟩,
       ⟨(some 28), none, .act, .build [(.int .u64 0), (.int .u64 0), (.int .i64 0), (.int .u64 0), (.int .u64 0), (.bool false), (.int .u64 0), (.int .i64 0), (.int .i64 0), (.slice none 0 0), (.slice none 0 0), (.slice none 0 0), (.slice none 0 0), (.slice none 0 0), (.slice none 0 0), (.slice none 0 0), (.int .i64 0), (.string ⟨#[]⟩), (.slice none 0 0), (.int .i64 0), (.slice none 0 0)] [(2, 1, (.const (.int .i64 6))), (16, 5, (.tmp 27))]⟩,
       ⟨none, none, .act, .store 21 (.tmp 7) (.tmp 28)⟩])
     (.seq (.region [
       ⟨(some 30), none, .act, .eq false .int (.tmp 16) (.const (.int .i64 3))⟩,
       ⟨(some 29), none, .act, .mv (.tmp 30)⟩])
     (.cond (.tmp 29)
      (.region [
        ⟨(some 31), none, .act, .build [(.int .u64 0), (.int .u64 0), (.int .i64 0), (.int .u64 0), (.int .u64 0), (.bool false), (.int .u64 0), (.int .i64 0), (.int .i64 0), (.slice none 0 0), (.slice none 0 0), (.slice none 0 0), (.slice none 0 0), (.slice none 0 0), (.slice none 0 0), (.slice none 0 0), (.int .i64 0), (.string ⟨#[]⟩), (.slice none 0 0), (.int .i64 0), (.slice none 0 0)] [(2, 1, (.const (.int .i64 7)))]⟩,
        ⟨none, none, .act, .store 21 (.tmp 7) (.tmp 31)⟩])
      (.seq (.region [
        ⟨(some 33), none, .act, .eq false .int (.tmp 16) (.const (.int .i64 4))⟩,
        ⟨(some 32), none, .act, .mv (.tmp 33)⟩])
      (.cond (.tmp 32)
       (.regionT (.step ⟨(some 34), none, .pure, .mv (.tmp 1)⟩ (.step ⟨(some 35), none, .pure, .nilCheck (.tmp 34)⟩ (.step ⟨(some 36), none, .pure, .fieldAddr 48 (.tmp 35)⟩ (.step ⟨(some 40), none, .pure, .fieldAddr 2 (.tmp 7)⟩ (.alt ⟨(some 37), none, .read, .load false 1 (.tmp 36)⟩ (.step ⟨(some 38), none, .pure, .indexAddr 5 (.tmp 37) (.const (.int .i64 0))⟩ (.step ⟨(some 39), none, .pure, .load true 5 (.tmp 38)⟩ (.alt ⟨none, none, .act, .store 1 (.tmp 40) (.const (.int .i64 4))⟩ (.step ⟨(some 41), none, .pure, .fieldAddr 6 (.tmp 7)⟩ (.alt ⟨none, none, .act, .store 5 (.tmp 41) (.tmp 39)⟩ .done
    .stop))
    .stop)))
    (.alt ⟨none, none, .act, .store 1 (.tmp 40) (.const (.int .i64 4))⟩ (.step ⟨(some 37), none, .read, .load false 1 (.tmp 36)⟩ (.step ⟨(some 38), none, .pure, .indexAddr 5 (.tmp 37) (.const (.int .i64 0))⟩ (.step ⟨(some 39), none, .pure, .load true 5 (.tmp 38)⟩ (.step ⟨(some 41), none, .pure, .fieldAddr 6 (.tmp 7)⟩ (.alt ⟨none, none, .act, .store 5 (.tmp 41) (.tmp 39)⟩ .done
    .stop)))))
    .stop)))))))
       (.seq (.region [
         ⟨(some 43), none, .act, .eq false .int (.tmp 16) (.const (.int .i64 6))⟩,
         ⟨(some 42), none, .act, .mv (.tmp 43)⟩])
       (.cond (.tmp 42)
        (.region [
          ⟨(some 44), none, .act, .mv (.tmp 1)⟩,
          ⟨(some 45), none, .act, .call 49 [(.tmp 44)]⟩,
          ⟨(some 46), none, .act, .build [(.int .u64 0), (.int .u64 0), (.int .i64 0), (.int .u64 0), (.int .u64 0), (.bool false), (.int .u64 0), (.int .i64 0), (.int .i64 0), (.slice none 0 0), (.slice none 0 0), (.slice none 0 0), (.slice none 0 0), (.slice none 0 0), (.slice none 0 0), (.slice none 0 0), (.int .i64 0), (.string ⟨#[]⟩), (.slice none 0 0), (.int .i64 0), (.slice none 0 0)] [(2, 1, (.const (.int .i64 3))), (13, 1, (.tmp 45))]⟩,
          ⟨none, none, .act, .store 21 (.tmp 7) (.tmp 46)⟩])
        (.seq (.seq (.region [
          ⟨(some 48), none, .act, .eq false .int (.tmp 16) (.const (.int .i64 9))⟩,
          ⟨(some 47), none, .act, .mv (.tmp 48)⟩])
        (.cond (.tmp 47)
         .skip
         (.region [
           ⟨(some 49), none, .act, .eq false .int (.tmp 16) (.const (.int .i64 10))⟩,
           ⟨(some 47), none, .act, .mv (.tmp 49)⟩])))
        (.cond (.tmp 47)
         (.regionT (.step ⟨(some 50), none, .pure, .mv (.tmp 1)⟩ (.step ⟨(some 51), none, .pure, .nilCheck (.tmp 50)⟩ (.step ⟨(some 52), none, .pure, .fieldAddr 19 (.tmp 51)⟩ (.step ⟨(some 55), none, .pure, .fieldAddr 2 (.tmp 7)⟩ (.alt ⟨(some 53), none, .read, .load false 1 (.tmp 52)⟩ (.step ⟨(some 54), none, .pure, .eq false .int (.tmp 53) (.const (.int .i64 9))⟩ (.alt ⟨none, none, .act, .store 1 (.tmp 55) (.const (.int .i64 2))⟩ (.step ⟨(some 56), none, .pure, .fieldAddr 5 (.tmp 7)⟩ (.alt ⟨none, none, .act, .store 1 (.tmp 56) (.tmp 54)⟩ .done
    .stop))
    .stop))
    (.alt ⟨none, none, .act, .store 1 (.tmp 55) (.const (.int .i64 2))⟩ (.step ⟨(some 53), none, .read, .load false 1 (.tmp 52)⟩ (.step ⟨(some 54), none, .pure, .eq false .int (.tmp 53) (.const (.int .i64 9))⟩ (.step ⟨(some 56), none, .pure, .fieldAddr 5 (.tmp 7)⟩ (.alt ⟨none, none, .act, .store 1 (.tmp 56) (.tmp 54)⟩ .done
    .stop))))
    .stop)))))))
         (.seq (.region [
           ⟨(some 58), none, .act, .eq false .int (.tmp 16) (.const (.int .i64 12))⟩,
           ⟨(some 57), none, .act, .mv (.tmp 58)⟩])
         (.cond (.tmp 57)
          (.region [
            ⟨(some 59), none, .act, .fieldAddr 2 (.tmp 7)⟩,
            ⟨none, none, .act, .store 1 (.tmp 59) (.const (.int .i64 5))⟩])
          (.seq (.seq (.region [
            ⟨(some 61), none, .act, .eq false .int (.tmp 16) (.const (.int .i64 5))⟩,
            ⟨(some 60), none, .act, .mv (.tmp 61)⟩])
          (.cond (.tmp 60)
           .skip
           (.seq (.region [
             ⟨(some 62), none, .act, .eq false .int (.tmp 16) (.const (.int .i64 7))⟩,
             ⟨(some 60), none, .act, .mv (.tmp 62)⟩])
           (.cond (.tmp 60)
            .skip
            (.seq (.region [
              ⟨(some 63), none, .act, .eq false .int (.tmp 16) (.const (.int .i64 8))⟩,
              ⟨(some 60), none, .act, .mv (.tmp 63)⟩])
            (.cond (.tmp 60)
             .skip
             (.region [
               ⟨(some 64), none, .act, .eq false .int (.tmp 16) (.const (.int .i64 11))⟩,
               ⟨(some 60), none, .act, .mv (.tmp 64)⟩])))))))
          (.cond (.tmp 60)
           (.seq (.region [
             ⟨(some 65), none, .act, .mv (.tmp 0)⟩,
             ⟨(some 66), none, .act, .mv (.tmp 1)⟩,
             ⟨(some 67), none, .act, .call 50 [(.tmp 65), (.tmp 66)]⟩,
             ⟨(some 68), none, .act, .extract (.tmp 67) 0⟩,
             ⟨(some 69), none, .act, .extract (.tmp 67) 1⟩,
             ⟨(some 70), none, .act, .extract (.tmp 67) 2⟩,
             ⟨(some 4), none, .act, .mv (.tmp 68)⟩,
             ⟨none, none, .act, .store 21 (.tmp 5) (.tmp 69)⟩,
             ⟨(some 6), none, .act, .mv (.tmp 70)⟩])
           .ret)
           (.seq (.region [
             ⟨(some 17), none, .act, .build [(.int .u64 0), (.int .u64 0), (.int .i64 0), (.int .u64 0), (.int .u64 0), (.bool false), (.int .u64 0), (.int .i64 0), (.int .i64 0), (.slice none 0 0), (.slice none 0 0), (.slice none 0 0), (.slice none 0 0), (.slice none 0 0), (.slice none 0 0), (.slice none 0 0), (.int .i64 0), (.string ⟨#[]⟩), (.slice none 0 0), (.int .i64 0), (.slice none 0 0)] []⟩,
             ⟨(some 4), none, .act, .mv (.const (.int .i64 0))⟩,
             ⟨none, none, .act, .store 21 (.tmp 5) (.tmp 17)⟩,
             ⟨(some 6), none, .act, .mv (.const (.bool false))⟩])
           .ret)))))))))))))))))))
  (.seq (.region [
    ⟨(some 71), none, .read, .load true 21 (.tmp 7)⟩,
    ⟨(some 4), none, .pure, .mv (.const (.int .i64 0))⟩,
    ⟨none, none, .act, .store 21 (.tmp 5) (.tmp 71)⟩,
    ⟨(some 6), none, .pure, .mv (.const (.bool true))⟩])
  .ret))))
theorem res24 : ∃ c, Tryz.f24.body = some c ∧ resCode Tryz.prog 72 c = some r24 := ⟨_, rfl, by kernel_rfl⟩
theorem rr24 : resRes Tryz.prog Tryz.f24.results.toList = some [.tmp 4, .cell 5 true 21, .tmp 6] := by kernel_rfl
theorem fok24 : FOk Tryz.prog 24 ⟨r24, 72, [.tmp 4, .cell 5 true 21, .tmp 6]⟩ := by
  obtain ⟨c, h1, h2⟩ := res24
  exact ⟨by kernel_rfl, _, c, Tryz.func24, h1, Tryz.ntmps24, ⟨_, h2⟩, rr24⟩
def r9 : RCode :=
  (.seq (.region [
    ⟨(some 4), none, .act, .alloc [(.int .i64 0), (.slice none 0 0), (.slice none 0 0), (.int .u64 0)]⟩,
    ⟨(some 5), none, .act, .mv (.const (.bool false))⟩])
  (.seq (.seq (.region [
    ⟨(some 7), none, .act, .mv (.tmp 0)⟩,
    ⟨(some 8), none, .act, .call 20 [(.tmp 7)]⟩,
    ⟨(some 9), none, .act, .un .not (.tmp 8)⟩,
    ⟨(some 10), none, .act, .mv (.tmp 9)⟩,
    ⟨(some 11), (some (10, false)), .act, .mv (.tmp 0)⟩,
    ⟨(some 12), (some (10, false)), .act, .nilCheck (.tmp 11)⟩,
    ⟨(some 13), (some (10, false)), .act, .fieldAddr 1 (.tmp 12)⟩,
    ⟨(some 14), (some (10, false)), .act, .load false 1 (.tmp 13)⟩,
    ⟨(some 15), (some (10, false)), .act, .mv (.tmp 1)⟩,
    ⟨(some 16), (some (10, false)), .act, .lookup 30 (.pointer none) (.tmp 14) (.tmp 15) false⟩,
    ⟨(some 17), (some (10, false)), .act, .eq false .ptr (.tmp 16) (.const (.pointer none))⟩,
    ⟨(some 18), none, .act, .pick (.tmp 10) (.const (.bool true)) (.tmp 17)⟩,
    ⟨(some 19), none, .act, .mv (.tmp 18)⟩,
    ⟨(some 20), (some (19, false)), .act, .mv (.tmp 0)⟩,
    ⟨(some 21), (some (19, false)), .act, .nilCheck (.tmp 20)⟩,
    ⟨(some 22), (some (19, false)), .act, .fieldAddr 1 (.tmp 21)⟩,
    ⟨(some 23), (some (19, false)), .act, .load false 1 (.tmp 22)⟩,
    ⟨(some 24), (some (19, false)), .act, .mv (.tmp 1)⟩,
    ⟨(some 25), (some (19, false)), .act, .lookup 30 (.pointer none) (.tmp 23) (.tmp 24) false⟩,
    ⟨(some 26), (some (19, false)), .act, .nilCheck (.tmp 25)⟩,
    ⟨(some 27), (some (19, false)), .act, .fieldAddr 19 (.tmp 26)⟩,
    ⟨(some 28), (some (19, false)), .act, .load false 1 (.tmp 27)⟩,
    ⟨(some 29), (some (19, false)), .act, .eq true .int (.tmp 28) (.const (.int .i64 13))⟩,
    ⟨(some 30), none, .act, .pick (.tmp 19) (.const (.bool true)) (.tmp 29)⟩,
    ⟨(some 31), none, .act, .mv (.tmp 30)⟩,
    ⟨(some 32), (some (31, false)), .act, .mv (.tmp 0)⟩,
    ⟨(some 33), (some (31, false)), .act, .nilCheck (.tmp 32)⟩,
    ⟨(some 34), (some (31, false)), .act, .fieldAddr 1 (.tmp 33)⟩,
    ⟨(some 35), (some (31, false)), .act, .load false 1 (.tmp 34)⟩,
    ⟨(some 36), (some (31, false)), .act, .mv (.tmp 1)⟩,
    ⟨(some 37), (some (31, false)), .act, .lookup 30 (.pointer none) (.tmp 35) (.tmp 36) false⟩,
    ⟨(some 38), (some (31, false)), .act, .nilCheck (.tmp 37)⟩,
    ⟨(some 39), (some (31, false)), .act, .fieldAddr 6 (.tmp 38)⟩,
    ⟨(some 40), (some (31, false)), .act, .load false 1 (.tmp 39)⟩,
    ⟨(some 41), (some (31, false)), .act, .un .not (.tmp 40)⟩,
    ⟨(some 42), none, .act, .pick (.tmp 31) (.const (.bool true)) (.tmp 41)⟩,
    ⟨(some 43), none, .act, .mv (.tmp 42)⟩,
    ⟨(some 44), (some (43, false)), .act, .mv (.tmp 0)⟩,
    ⟨(some 45), (some (43, false)), .act, .nilCheck (.tmp 44)⟩,
    ⟨(some 46), (some (43, false)), .act, .fieldAddr 1 (.tmp 45)⟩,
    ⟨(some 47), (some (43, false)), .act, .load false 1 (.tmp 46)⟩,
    ⟨(some 48), (some (43, false)), .act, .mv (.tmp 1)⟩,
    ⟨(some 49), (some (43, false)), .act, .lookup 30 (.pointer none) (.tmp 47) (.tmp 48) false⟩,
    ⟨(some 50), (some (43, false)), .act, .nilCheck (.tmp 49)⟩,
    ⟨(some 51), (some (43, false)), .act, .fieldAddr 7 (.tmp 50)⟩,
    ⟨(some 52), (some (43, false)), .act, .load false 1 (.tmp 51)⟩,
    ⟨(some 53), none, .act, .pick (.tmp 43) (.const (.bool true)) (.tmp 52)⟩])
  (.cond (.tmp 53)
   (.seq (.region [
     ⟨(some 54), none, .act, .build [(.int .i64 0), (.slice none 0 0), (.slice none 0 0), (.int .u64 0)] []⟩,
     ⟨none, none, .act, .store 4 (.tmp 4) (.tmp 54)⟩,
     ⟨(some 5), none, .act, .mv (.const (.bool false))⟩])
   .ret)
   .skip))
  (.seq (.region [
    ⟨(some 55), none, .act, .mv (.tmp 0)⟩,
    ⟨(some 56), none, .act, .nilCheck (.tmp 55)⟩,
    ⟨(some 57), none, .act, .fieldAddr 1 (.tmp 56)⟩,
    ⟨(some 58), none, .act, .load false 1 (.tmp 57)⟩,
    ⟨(some 59), none, .act, .mv (.tmp 1)⟩,
    ⟨(some 60), none, .act, .lookup 30 (.pointer none) (.tmp 58) (.tmp 59) false⟩,
    ⟨(some 6), none, .act, .mv (.tmp 60)⟩])
  (.seq (.region [
    ⟨(some 61), none, .act, .mv (.tmp 6)⟩,
    ⟨(some 62), none, .act, .mv (.tmp 6)⟩,
    ⟨(some 63), none, .act, .nilCheck (.tmp 61)⟩,
    ⟨(some 64), none, .act, .fieldAddr 6 (.tmp 63)⟩,
    ⟨none, none, .act, .store 1 (.tmp 64) (.const (.bool false))⟩,
    ⟨(some 65), none, .act, .nilCheck (.tmp 62)⟩,
    ⟨(some 66), none, .act, .fieldAddr 19 (.tmp 65)⟩,
    ⟨none, none, .act, .store 1 (.tmp 66) (.const (.int .i64 0))⟩])
  (.seq (.region [
    ⟨(some 67), none, .act, .mv (.tmp 6)⟩,
    ⟨(some 68), none, .act, .nilCheck (.tmp 67)⟩,
    ⟨(some 69), none, .act, .fieldAddr 20 (.tmp 68)⟩,
    ⟨(some 70), none, .act, .load true 4 (.tmp 69)⟩,
    ⟨none, none, .act, .store 4 (.tmp 4) (.tmp 70)⟩,
    ⟨(some 5), none, .act, .mv (.const (.bool true))⟩])
  .ret)))))
theorem res9 : ∃ c, Tryz.f9.body = some c ∧ resCode Tryz.prog 71 c = some r9 := ⟨_, rfl, by kernel_rfl⟩
theorem rr9 : resRes Tryz.prog Tryz.f9.results.toList = some [.cell 4 true 4, .tmp 5] := by kernel_rfl
theorem fok9 : FOk Tryz.prog 9 ⟨r9, 71, [.cell 4 true 4, .tmp 5]⟩ := by
  obtain ⟨c, h1, h2⟩ := res9
  exact ⟨by kernel_rfl, _, c, Tryz.func9, h1, Tryz.ntmps9, ⟨_, h2⟩, rr9⟩
def r25 : RCode :=
  (.seq (.region [
    ⟨(some 2), none, .act, .mv (.const (.slice none 0 0))⟩])
  (.seq (.seq (.region [
    ⟨(some 3), none, .act, .mv (.tmp 0)⟩,
    ⟨(some 4), none, .act, .eq false .slice (.tmp 3) (.const (.slice none 0 0))⟩])
  (.cond (.tmp 4)
   (.seq (.region [
     ⟨(some 2), none, .act, .mv (.const (.slice none 0 0))⟩])
   .ret)
   .skip))
  (.seq (.region [
    ⟨(some 5), none, .act, .buildSl 2 [(.slice none 0 0), (.slice none 0 0)] 0 []⟩,
    ⟨(some 6), none, .act, .mv (.tmp 0)⟩,
    ⟨(some 7), none, .act, .append 2 48 [(.slice none 0 0), (.slice none 0 0)] (.tmp 5) (.tmp 6)⟩,
    ⟨(some 2), none, .act, .mv (.tmp 7)⟩])
  .ret)))
theorem res25 : ∃ c, Tryz.f25.body = some c ∧ resCode Tryz.prog 8 c = some r25 := ⟨_, rfl, by kernel_rfl⟩
theorem rr25 : resRes Tryz.prog Tryz.f25.results.toList = some [.tmp 2] := by kernel_rfl
theorem fok25 : FOk Tryz.prog 25 ⟨r25, 8, [.tmp 2]⟩ := by
  obtain ⟨c, h1, h2⟩ := res25
  exact ⟨by kernel_rfl, _, c, Tryz.func25, h1, Tryz.ntmps25, ⟨_, h2⟩, rr25⟩
def r26 : RCode :=
  (.seq (.region [
    ⟨(some 2), none, .act, .mv (.const (.slice none 0 0))⟩])
  (.seq (.seq (.region [
    ⟨(some 3), none, .act, .mv (.tmp 0)⟩,
    ⟨(some 4), none, .act, .eq false .slice (.tmp 3) (.const (.slice none 0 0))⟩])
  (.cond (.tmp 4)
   (.seq (.region [
     ⟨(some 2), none, .act, .mv (.const (.slice none 0 0))⟩])
   .ret)
   .skip))
  (.seq (.region [
    ⟨(some 5), none, .act, .buildSl 5 [(.int .i64 0), (.string ⟨#[]⟩), (.slice none 0 0), (.int .i64 0), (.slice none 0 0)] 0 []⟩,
    ⟨(some 6), none, .act, .mv (.tmp 0)⟩,
    ⟨(some 7), none, .act, .append 5 80 [(.int .i64 0), (.string ⟨#[]⟩), (.slice none 0 0), (.int .i64 0), (.slice none 0 0)] (.tmp 5) (.tmp 6)⟩,
    ⟨(some 2), none, .act, .mv (.tmp 7)⟩])
  .ret)))
theorem res26 : ∃ c, Tryz.f26.body = some c ∧ resCode Tryz.prog 8 c = some r26 := ⟨_, rfl, by kernel_rfl⟩
theorem rr26 : resRes Tryz.prog Tryz.f26.results.toList = some [.tmp 2] := by kernel_rfl
theorem fok26 : FOk Tryz.prog 26 ⟨r26, 8, [.tmp 2]⟩ := by
  obtain ⟨c, h1, h2⟩ := res26
  exact ⟨by kernel_rfl, _, c, Tryz.func26, h1, Tryz.ntmps26, ⟨_, h2⟩, rr26⟩
def r35 : RCode :=
  (.seq (.region [
    ⟨(some 5), none, .act, .box (.tmp 2)⟩,
    ⟨(some 6), none, .act, .alloc [(.int .i64 0), (.int .u64 0), (.int .u64 0), (.bool false), (.slice none 0 0), (.slice none 0 0), (.slice none 0 0)]⟩])
  (.seq (.seq (.region [
    ⟨(some 7), none, .act, .mv (.tmp 1)⟩,
    ⟨(some 8), none, .act, .eq false .int (.tmp 7) (.const (.int .i64 0))⟩])
  (.cond (.tmp 8)
   (.seq (.region [
     ⟨(some 9), none, .pure, .mv (.tmp 0)⟩,
     ⟨(some 10), none, .pure, .nilCheck (.tmp 9)⟩,
     ⟨(some 11), none, .pure, .fieldAddr 1 (.tmp 10)⟩,
     ⟨(some 12), none, .read, .load false 1 (.tmp 11)⟩,
     ⟨(some 13), none, .read, .load true 21 (.tmp 5)⟩,
     ⟨(some 14), none, .act, .call 62 [(.tmp 12), (.tmp 13)]⟩,
     ⟨none, none, .act, .store 7 (.tmp 6) (.tmp 14)⟩])
   .ret)
   .skip))
  (.seq (.region [
    ⟨(some 15), none, .pure, .mv (.tmp 0)⟩,
    ⟨(some 16), none, .pure, .mv (.tmp 1)⟩,
    ⟨(some 17), none, .pure, .bin .sub (.tmp 16) (.const (.int .i64 1))⟩,
    ⟨(some 18), none, .read, .call 16 [(.tmp 15), (.tmp 17)]⟩,
    ⟨(some 19), none, .read, .load true 21 (.tmp 5)⟩,
    ⟨(some 20), none, .act, .call 63 [(.tmp 18), (.tmp 19)]⟩,
    ⟨none, none, .act, .store 7 (.tmp 6) (.tmp 20)⟩])
  .ret)))
theorem res35 : ∃ c, Tryz.f35.body = some c ∧ resCode Tryz.prog 21 c = some r35 := ⟨_, rfl, by kernel_rfl⟩
theorem rr35 : resRes Tryz.prog Tryz.f35.results.toList = some [.cell 6 true 7] := by kernel_rfl
theorem fok35 : FOk Tryz.prog 35 ⟨r35, 21, [.cell 6 true 7]⟩ := by
  obtain ⟨c, h1, h2⟩ := res35
  exact ⟨by kernel_rfl, _, c, Tryz.func35, h1, Tryz.ntmps35, ⟨_, h2⟩, rr35⟩
def r62 : RCode :=
  (.seq (.region [
    ⟨(some 3), none, .act, .box (.tmp 1)⟩,
    ⟨(some 4), none, .act, .alloc [(.int .i64 0), (.int .u64 0), (.int .u64 0), (.bool false), (.slice none 0 0), (.slice none 0 0), (.slice none 0 0)]⟩])
  (.seq (.seq (.region [
    ⟨(some 8), none, .act, .mv (.tmp 0)⟩,
    ⟨(some 9), none, .act, .call 81 [(.tmp 8)]⟩,
    ⟨(some 10), none, .act, .un .not (.tmp 9)⟩])
  (.cond (.tmp 10)
   (.seq (.region [
     ⟨(some 11), none, .act, .build [(.int .i64 0), (.int .u64 0), (.int .u64 0), (.bool false), (.slice none 0 0), (.slice none 0 0), (.slice none 0 0)] [(0, 1, (.const (.int .i64 1)))]⟩,
     ⟨none, none, .act, .store 7 (.tmp 4) (.tmp 11)⟩])
   .ret)
   .skip))
  (.seq (.regionT (.step ⟨(some 13), none, .pure, .mv (.tmp 0)⟩ (.step ⟨(some 14), none, .pure, .nilCheck (.tmp 13)⟩ (.step ⟨(some 15), none, .pure, .fieldAddr 4 (.tmp 14)⟩ (.step ⟨(some 17), none, .pure, .fieldAddr 0 (.tmp 3)⟩ (.alt ⟨(some 16), none, .read, .load false 1 (.tmp 15)⟩ (.alt ⟨(some 18), none, .read, .load false 1 (.tmp 17)⟩ (.alt ⟨(some 19), none, .read, .lookup 30 (.agg #[(.int .u64 0), (.int .i64 0), (.int .u64 0), (.int .u64 0), (.bool false), (.slice none 0 0), (.slice none 0 0), (.slice none 0 0)]) (.tmp 16) (.tmp 18) true⟩ (.step ⟨(some 12), none, .pure, .mv (.tmp 19)⟩ (.step ⟨(some 20), none, .pure, .extract (.tmp 12) 0⟩ (.step ⟨(some 21), none, .pure, .extract (.tmp 12) 1⟩ (.alt ⟨(some 5), none, .act, .alloc [(.int .u64 0), (.int .i64 0), (.int .u64 0), (.int .u64 0), (.bool false), (.slice none 0 0), (.slice none 0 0), (.slice none 0 0)]⟩ (.alt ⟨none, none, .act, .store 8 (.tmp 5) (.tmp 20)⟩ (.step ⟨(some 6), none, .pure, .mv (.tmp 21)⟩ .done)
    .stop)
    .stop))))
    (.alt ⟨(some 5), none, .act, .alloc [(.int .u64 0), (.int .i64 0), (.int .u64 0), (.int .u64 0), (.bool false), (.slice none 0 0), (.slice none 0 0), (.slice none 0 0)]⟩ (.step ⟨(some 19), none, .read, .lookup 30 (.agg #[(.int .u64 0), (.int .i64 0), (.int .u64 0), (.int .u64 0), (.bool false), (.slice none 0 0), (.slice none 0 0), (.slice none 0 0)]) (.tmp 16) (.tmp 18) true⟩ (.step ⟨(some 12), none, .pure, .mv (.tmp 19)⟩ (.step ⟨(some 20), none, .pure, .extract (.tmp 12) 0⟩ (.step ⟨(some 21), none, .pure, .extract (.tmp 12) 1⟩ (.alt ⟨none, none, .act, .store 8 (.tmp 5) (.tmp 20)⟩ (.step ⟨(some 6), none, .pure, .mv (.tmp 21)⟩ .done)
    .stop)))))
    .stop))
    (.alt ⟨(some 5), none, .act, .alloc [(.int .u64 0), (.int .i64 0), (.int .u64 0), (.int .u64 0), (.bool false), (.slice none 0 0), (.slice none 0 0), (.slice none 0 0)]⟩ (.step ⟨(some 18), none, .read, .load false 1 (.tmp 17)⟩ (.step ⟨(some 19), none, .read, .lookup 30 (.agg #[(.int .u64 0), (.int .i64 0), (.int .u64 0), (.int .u64 0), (.bool false), (.slice none 0 0), (.slice none 0 0), (.slice none 0 0)]) (.tmp 16) (.tmp 18) true⟩ (.step ⟨(some 12), none, .pure, .mv (.tmp 19)⟩ (.step ⟨(some 20), none, .pure, .extract (.tmp 12) 0⟩ (.step ⟨(some 21), none, .pure, .extract (.tmp 12) 1⟩ (.alt ⟨none, none, .act, .store 8 (.tmp 5) (.tmp 20)⟩ (.step ⟨(some 6), none, .pure, .mv (.tmp 21)⟩ .done)
    .stop))))))
    .stop))
    (.alt ⟨(some 18), none, .read, .load false 1 (.tmp 17)⟩ (.alt ⟨(some 16), none, .read, .load false 1 (.tmp 15)⟩ (.alt ⟨(some 19), none, .read, .lookup 30 (.agg #[(.int .u64 0), (.int .i64 0), (.int .u64 0), (.int .u64 0), (.bool false), (.slice none 0 0), (.slice none 0 0), (.slice none 0 0)]) (.tmp 16) (.tmp 18) true⟩ (.step ⟨(some 12), none, .pure, .mv (.tmp 19)⟩ (.step ⟨(some 20), none, .pure, .extract (.tmp 12) 0⟩ (.step ⟨(some 21), none, .pure, .extract (.tmp 12) 1⟩ (.alt ⟨(some 5), none, .act, .alloc [(.int .u64 0), (.int .i64 0), (.int .u64 0), (.int .u64 0), (.bool false), (.slice none 0 0), (.slice none 0 0), (.slice none 0 0)]⟩ (.alt ⟨none, none, .act, .store 8 (.tmp 5) (.tmp 20)⟩ (.step ⟨(some 6), none, .pure, .mv (.tmp 21)⟩ .done)
    .stop)
    .stop))))
    (.alt ⟨(some 5), none, .act, .alloc [(.int .u64 0), (.int .i64 0), (.int .u64 0), (.int .u64 0), (.bool false), (.slice none 0 0), (.slice none 0 0), (.slice none 0 0)]⟩ (.step ⟨(some 19), none, .read, .lookup 30 (.agg #[(.int .u64 0), (.int .i64 0), (.int .u64 0), (.int .u64 0), (.bool false), (.slice none 0 0), (.slice none 0 0), (.slice none 0 0)]) (.tmp 16) (.tmp 18) true⟩ (.step ⟨(some 12), none, .pure, .mv (.tmp 19)⟩ (.step ⟨(some 20), none, .pure, .extract (.tmp 12) 0⟩ (.step ⟨(some 21), none, .pure, .extract (.tmp 12) 1⟩ (.alt ⟨none, none, .act, .store 8 (.tmp 5) (.tmp 20)⟩ (.step ⟨(some 6), none, .pure, .mv (.tmp 21)⟩ .done)
    .stop)))))
    .stop))
    (.alt ⟨(some 5), none, .act, .alloc [(.int .u64 0), (.int .i64 0), (.int .u64 0), (.int .u64 0), (.bool false), (.slice none 0 0), (.slice none 0 0), (.slice none 0 0)]⟩ (.step ⟨(some 16), none, .read, .load false 1 (.tmp 15)⟩ (.step ⟨(some 19), none, .read, .lookup 30 (.agg #[(.int .u64 0), (.int .i64 0), (.int .u64 0), (.int .u64 0), (.bool false), (.slice none 0 0), (.slice none 0 0), (.slice none 0 0)]) (.tmp 16) (.tmp 18) true⟩ (.step ⟨(some 12), none, .pure, .mv (.tmp 19)⟩ (.step ⟨(some 20), none, .pure, .extract (.tmp 12) 0⟩ (.step ⟨(some 21), none, .pure, .extract (.tmp 12) 1⟩ (.alt ⟨none, none, .act, .store 8 (.tmp 5) (.tmp 20)⟩ (.step ⟨(some 6), none, .pure, .mv (.tmp 21)⟩ .done)
    .stop))))))
    .stop))
    (.alt ⟨(some 5), none, .act, .alloc [(.int .u64 0), (.int .i64 0), (.int .u64 0), (.int .u64 0), (.bool false), (.slice none 0 0), (.slice none 0 0), (.slice none 0 0)]⟩ (.step ⟨(some 16), none, .read, .load false 1 (.tmp 15)⟩ (.step ⟨(some 18), none, .read, .load false 1 (.tmp 17)⟩ (.step ⟨(some 19), none, .read, .lookup 30 (.agg #[(.int .u64 0), (.int .i64 0), (.int .u64 0), (.int .u64 0), (.bool false), (.slice none 0 0), (.slice none 0 0), (.slice none 0 0)]) (.tmp 16) (.tmp 18) true⟩ (.step ⟨(some 12), none, .pure, .mv (.tmp 19)⟩ (.step ⟨(some 20), none, .pure, .extract (.tmp 12) 0⟩ (.step ⟨(some 21), none, .pure, .extract (.tmp 12) 1⟩ (.alt ⟨none, none, .act, .store 8 (.tmp 5) (.tmp 20)⟩ (.step ⟨(some 6), none, .pure, .mv (.tmp 21)⟩ .done)
    .stop)))))))
    .stop))))))))
  (.seq (.block 0
   (.seq (.region [
     ⟨(some 24), none, .act, .fieldAddr 0 (.tmp 3)⟩,
     ⟨(some 25), none, .act, .load false 1 (.tmp 24)⟩,
     ⟨(some 26), none, .act, .eq false .int (.tmp 25) (.const (.int .u64 0))⟩,
     ⟨(some 27), none, .act, .mv (.tmp 26)⟩,
     ⟨(some 28), (some (27, false)), .act, .mv (.tmp 6)⟩,
     ⟨(some 29), (some (27, false)), .act, .un .not (.tmp 28)⟩,
     ⟨(some 30), none, .act, .pick (.tmp 27) (.const (.bool true)) (.tmp 29)⟩,
     ⟨(some 31), none, .act, .mv (.tmp 30)⟩,
     ⟨(some 32), (some (31, false)), .act, .fieldAddr 0 (.tmp 5)⟩,
     ⟨(some 33), (some (31, false)), .act, .load false 1 (.tmp 32)⟩,
     ⟨(some 34), (some (31, false)), .act, .fieldAddr 1 (.tmp 3)⟩,
     ⟨(some 35), (some (31, false)), .act, .load false 1 (.tmp 34)⟩,
     ⟨(some 36), (some (31, false)), .act, .bin .lss (.tmp 33) (.tmp 35)⟩,
     ⟨(some 37), none, .act, .pick (.tmp 31) (.const (.bool true)) (.tmp 36)⟩,
     ⟨(some 23), none, .act, .mv (.tmp 37)⟩])
   (.cond (.tmp 23)
    .skip
    (.seq (.region [
      ⟨(some 39), none, .act, .fieldAddr 0 (.tmp 5)⟩,
      ⟨(some 40), none, .act, .load false 1 (.tmp 39)⟩,
      ⟨(some 41), none, .act, .fieldAddr 1 (.tmp 3)⟩,
      ⟨(some 42), none, .act, .load false 1 (.tmp 41)⟩,
      ⟨(some 43), none, .act, .eq false .int (.tmp 40) (.tmp 42)⟩,
      ⟨(some 38), none, .act, .mv (.tmp 43)⟩])
    (.cond (.tmp 38)
     (.seq (.region [
       ⟨(some 44), none, .act, .fieldAddr 1 (.tmp 5)⟩,
       ⟨(some 45), none, .act, .load true 7 (.tmp 44)⟩,
       ⟨none, none, .act, .store 7 (.tmp 4) (.tmp 45)⟩])
     .ret)
     (.seq (.region [
       ⟨(some 22), none, .act, .build [(.int .i64 0), (.int .u64 0), (.int .u64 0), (.bool false), (.slice none 0 0), (.slice none 0 0), (.slice none 0 0)] [(0, 1, (.const (.int .i64 1)))]⟩,
       ⟨none, none, .act, .store 7 (.tmp 4) (.tmp 22)⟩])
     .ret))))))
  (.seq (.region [
    ⟨(some 46), none, .act, .mv (.tmp 0)⟩,
    ⟨(some 47), none, .act, .load true 21 (.tmp 3)⟩,
    ⟨(some 48), none, .act, .call 82 [(.tmp 46), (.tmp 47)]⟩,
    ⟨(some 7), none, .act, .alloc [(.int .i64 0), (.int .u64 0), (.int .u64 0), (.bool false), (.slice none 0 0), (.slice none 0 0), (.slice none 0 0)]⟩,
    ⟨none, none, .act, .store 7 (.tmp 7) (.tmp 48)⟩])
  (.seq (.seq (.region [
    ⟨(some 49), none, .act, .fieldAddr 0 (.tmp 3)⟩,
    ⟨(some 50), none, .act, .load false 1 (.tmp 49)⟩,
    ⟨(some 51), none, .act, .eq true .int (.tmp 50) (.const (.int .u64 0))⟩])
  (.cond (.tmp 51)
   (.region [
     ⟨(some 52), none, .pure, .mv (.tmp 0)⟩,
     ⟨(some 53), none, .pure, .nilCheck (.tmp 52)⟩,
     ⟨(some 54), none, .pure, .fieldAddr 4 (.tmp 53)⟩,
     ⟨(some 55), none, .read, .load false 1 (.tmp 54)⟩,
     ⟨(some 56), none, .pure, .fieldAddr 0 (.tmp 3)⟩,
     ⟨(some 57), none, .read, .load false 1 (.tmp 56)⟩,
     ⟨(some 58), none, .pure, .fieldAddr 1 (.tmp 3)⟩,
     ⟨(some 59), none, .read, .load false 1 (.tmp 58)⟩,
     ⟨(some 60), none, .read, .load true 7 (.tmp 7)⟩,
     ⟨(some 61), none, .pure, .build [(.int .u64 0), (.int .i64 0), (.int .u64 0), (.int .u64 0), (.bool false), (.slice none 0 0), (.slice none 0 0), (.slice none 0 0)] [(0, 1, (.tmp 59)), (1, 7, (.tmp 60))]⟩,
     ⟨none, none, .act, .mapUpdate 30 (.tmp 55) (.tmp 57) (.tmp 61)⟩])
   .skip))
  (.seq (.region [
    ⟨(some 62), none, .act, .load true 7 (.tmp 7)⟩,
    ⟨none, none, .act, .store 7 (.tmp 4) (.tmp 62)⟩])
  .ret)))))))
theorem res62 : ∃ c, Tryz.f62.body = some c ∧ resCode Tryz.prog 63 c = some r62 := ⟨_, rfl, by kernel_rfl⟩
theorem rr62 : resRes Tryz.prog Tryz.f62.results.toList = some [.cell 4 true 7] := by kernel_rfl
theorem fok62 : FOk Tryz.prog 62 ⟨r62, 63, [.cell 4 true 7]⟩ := by
  obtain ⟨c, h1, h2⟩ := res62
  exact ⟨by kernel_rfl, _, c, Tryz.func62, h1, Tryz.ntmps62, ⟨_, h2⟩, rr62⟩
def r81 : RCode :=
  (.seq (.region [
    ⟨(some 2), none, .act, .mv (.const (.bool false))⟩])
  (.seq (.region [
    ⟨(some 3), none, .act, .mv (.tmp 0)⟩,
    ⟨(some 4), none, .act, .eq true .ptr (.tmp 3) (.const (.pointer none))⟩,
    ⟨(some 5), none, .act, .mv (.tmp 4)⟩,
    ⟨(some 6), (some (5, true)), .act, .mv (.tmp 0)⟩,
    ⟨(some 7), (some (5, true)), .act, .nilCheck (.tmp 6)⟩,
    ⟨(some 8), (some (5, true)), .act, .fieldAddr 2 (.tmp 7)⟩,
    ⟨(some 9), (some (5, true)), .act, .load false 1 (.tmp 8)⟩,
    ⟨(some 10), (some (5, true)), .act, .eq true .ptr (.tmp 9) (.const (.pointer none))⟩,
    ⟨(some 11), none, .act, .pick (.tmp 5) (.tmp 10) (.const (.bool false))⟩,
    ⟨(some 2), none, .act, .mv (.tmp 11)⟩])
  .ret))
theorem res81 : ∃ c, Tryz.f81.body = some c ∧ resCode Tryz.prog 12 c = some r81 := ⟨_, rfl, by kernel_rfl⟩
theorem rr81 : resRes Tryz.prog Tryz.f81.results.toList = some [.tmp 2] := by kernel_rfl
theorem fok81 : FOk Tryz.prog 81 ⟨r81, 12, [.tmp 2]⟩ := by
  obtain ⟨c, h1, h2⟩ := res81
  exact ⟨by kernel_rfl, _, c, Tryz.func81, h1, Tryz.ntmps81, ⟨_, h2⟩, rr81⟩
def r82 : RCode :=
  (.seq (.region [
    ⟨(some 3), none, .act, .box (.tmp 1)⟩,
    ⟨(some 4), none, .act, .alloc [(.int .i64 0), (.int .u64 0), (.int .u64 0), (.bool false), (.slice none 0 0), (.slice none 0 0), (.slice none 0 0)]⟩])
  (.seq (.seq (.region [
    ⟨(some 6), none, .act, .fieldAddr 2 (.tmp 3)⟩,
    ⟨(some 7), none, .act, .load false 1 (.tmp 6)⟩])
  (.block 0
   (.seq (.region [
     ⟨(some 9), none, .act, .eq false .int (.tmp 7) (.const (.int .i64 1))⟩,
     ⟨(some 8), none, .act, .mv (.tmp 9)⟩])
   (.cond (.tmp 8)
    (.seq (.region [
      ⟨(some 10), none, .act, .mv (.tmp 0)⟩,
      ⟨(some 11), none, .act, .nilCheck (.tmp 10)⟩,
      ⟨(some 12), none, .act, .fieldAddr 1 (.tmp 11)⟩,
      ⟨(some 13), none, .act, .load false 1 (.tmp 12)⟩,
      ⟨(some 14), none, .act, .len (.tmp 13)⟩,
      ⟨(some 15), none, .act, .convInt .u64 (.tmp 14)⟩,
      ⟨(some 16), none, .act, .bin .add (.tmp 15) (.const (.int .u64 1))⟩,
      ⟨(some 5), none, .act, .mv (.tmp 16)⟩])
    (.seq (.region [
      ⟨(some 17), none, .act, .mv (.tmp 0)⟩,
      ⟨(some 18), none, .act, .mv (.tmp 0)⟩,
      ⟨(some 19), none, .act, .nilCheck (.tmp 18)⟩,
      ⟨(some 20), none, .act, .fieldAddr 1 (.tmp 19)⟩,
      ⟨(some 21), none, .act, .load false 1 (.tmp 20)⟩,
      ⟨(some 22), none, .act, .mv (.tmp 5)⟩,
      ⟨(some 23), none, .act, .build [(.int .u64 0), (.int .i64 0), (.int .u64 0)] [(0, 1, (.tmp 22))]⟩,
      ⟨(some 24), none, .act, .buildSl 3 [(.int .u64 0), (.int .i64 0), (.int .u64 0)] 1 [(0, (.tmp 23))]⟩,
      ⟨(some 25), none, .act, .append 3 24 [(.int .u64 0), (.int .i64 0), (.int .u64 0)] (.tmp 21) (.tmp 24)⟩,
      ⟨(some 26), none, .act, .nilCheck (.tmp 17)⟩,
      ⟨(some 27), none, .act, .fieldAddr 1 (.tmp 26)⟩,
      ⟨none, none, .act, .store 1 (.tmp 27) (.tmp 25)⟩])
    (.seq (.region [
      ⟨(some 28), none, .act, .mv (.tmp 5)⟩,
      ⟨(some 29), none, .act, .mv (.tmp 0)⟩,
      ⟨(some 30), none, .act, .nilCheck (.tmp 29)⟩,
      ⟨(some 31), none, .act, .fieldAddr 0 (.tmp 30)⟩,
      ⟨(some 32), none, .act, .load false 1 (.tmp 31)⟩,
      ⟨(some 33), none, .act, .build [(.int .i64 0), (.int .u64 0), (.int .u64 0), (.bool false), (.slice none 0 0), (.slice none 0 0), (.slice none 0 0)] [(1, 1, (.tmp 28)), (2, 1, (.tmp 32))]⟩,
      ⟨none, none, .act, .store 7 (.tmp 4) (.tmp 33)⟩])
    .ret)))
    (.seq (.region [
      ⟨(some 35), none, .act, .eq false .int (.tmp 7) (.const (.int .i64 2))⟩,
      ⟨(some 34), none, .act, .mv (.tmp 35)⟩])
    (.cond (.tmp 34)
     (.seq (.region [
       ⟨(some 36), none, .act, .mv (.tmp 0)⟩,
       ⟨(some 37), none, .act, .load true 21 (.tmp 3)⟩,
       ⟨(some 38), none, .act, .call 98 [(.tmp 36), (.tmp 37)]⟩,
       ⟨none, none, .act, .store 7 (.tmp 4) (.tmp 38)⟩])
     .ret)
     (.seq (.region [
       ⟨(some 40), none, .act, .eq false .int (.tmp 7) (.const (.int .i64 3))⟩,
       ⟨(some 39), none, .act, .mv (.tmp 40)⟩])
     (.cond (.tmp 39)
      (.seq (.region [
        ⟨(some 41), none, .act, .mv (.tmp 0)⟩,
        ⟨(some 42), none, .act, .load true 21 (.tmp 3)⟩,
        ⟨(some 43), none, .act, .call 99 [(.tmp 41), (.tmp 42)]⟩,
        ⟨none, none, .act, .store 7 (.tmp 4) (.tmp 43)⟩])
      .ret)
      (.seq (.region [
        ⟨(some 45), none, .act, .eq false .int (.tmp 7) (.const (.int .i64 4))⟩,
        ⟨(some 44), none, .act, .mv (.tmp 45)⟩])
      (.cond (.tmp 44)
       (.seq (.region [
         ⟨(some 46), none, .act, .mv (.tmp 0)⟩,
         ⟨(some 47), none, .act, .load true 21 (.tmp 3)⟩,
         ⟨(some 48), none, .act, .call 100 [(.tmp 46), (.tmp 47)]⟩,
         ⟨none, none, .act, .store 7 (.tmp 4) (.tmp 48)⟩])
       .ret)
       (.seq (.region [
         ⟨(some 50), none, .act, .eq false .int (.tmp 7) (.const (.int .i64 5))⟩,
         ⟨(some 49), none, .act, .mv (.tmp 50)⟩])
       (.cond (.tmp 49)
        (.seq (.region [
          ⟨(some 51), none, .pure, .mv (.tmp 0)⟩,
          ⟨(some 52), none, .pure, .nilCheck (.tmp 51)⟩,
          ⟨(some 53), none, .pure, .fieldAddr 2 (.tmp 52)⟩,
          ⟨(some 54), none, .read, .load false 1 (.tmp 53)⟩,
          ⟨(some 55), none, .pure, .fieldAddr 3 (.tmp 3)⟩,
          ⟨(some 56), none, .read, .load false 1 (.tmp 55)⟩,
          ⟨(some 57), none, .act, .call 101 [(.tmp 54), (.tmp 56)]⟩])
        (.seq (.region [
          ⟨(some 58), none, .act, .build [(.int .i64 0), (.int .u64 0), (.int .u64 0), (.bool false), (.slice none 0 0), (.slice none 0 0), (.slice none 0 0)] []⟩,
          ⟨none, none, .act, .store 7 (.tmp 4) (.tmp 58)⟩])
        .ret))
        (.seq (.region [
          ⟨(some 60), none, .act, .eq false .int (.tmp 7) (.const (.int .i64 6))⟩,
          ⟨(some 59), none, .act, .mv (.tmp 60)⟩])
        (.cond (.tmp 59)
         (.seq (.region [
           ⟨(some 61), none, .act, .mv (.tmp 0)⟩,
           ⟨(some 62), none, .act, .fieldAddr 16 (.tmp 3)⟩,
           ⟨(some 63), none, .act, .load true 5 (.tmp 62)⟩,
           ⟨(some 64), none, .act, .call 102 [(.tmp 61), (.tmp 63)]⟩,
           ⟨none, none, .act, .store 7 (.tmp 4) (.tmp 64)⟩])
         .ret)
         (.seq (.region [
           ⟨(some 66), none, .act, .eq false .int (.tmp 7) (.const (.int .i64 7))⟩,
           ⟨(some 65), none, .act, .mv (.tmp 66)⟩])
         (.cond (.tmp 65)
          (.seq (.region [
            ⟨(some 67), none, .act, .mv (.tmp 0)⟩,
            ⟨(some 68), none, .act, .nilCheck (.tmp 67)⟩,
            ⟨(some 69), none, .act, .fieldAddr 3 (.tmp 68)⟩,
            ⟨(some 70), none, .act, .load false 1 (.tmp 69)⟩,
            ⟨(some 71), none, .act, .call 103 [(.tmp 70)]⟩,
            ⟨(some 72), none, .act, .build [(.int .i64 0), (.int .u64 0), (.int .u64 0), (.bool false), (.slice none 0 0), (.slice none 0 0), (.slice none 0 0)] [(6, 1, (.tmp 71))]⟩,
            ⟨none, none, .act, .store 7 (.tmp 4) (.tmp 72)⟩])
          .ret)
          .skip))))))))))))))))
  (.seq (.region [
    ⟨(some 73), none, .act, .call 104 [(.const (.int .i64 1))]⟩,
    ⟨none, none, .act, .store 7 (.tmp 4) (.tmp 73)⟩])
  .ret)))
theorem res82 : ∃ c, Tryz.f82.body = some c ∧ resCode Tryz.prog 74 c = some r82 := ⟨_, rfl, by kernel_rfl⟩
theorem rr82 : resRes Tryz.prog Tryz.f82.results.toList = some [.cell 4 true 7] := by kernel_rfl
theorem fok82 : FOk Tryz.prog 82 ⟨r82, 74, [.cell 4 true 7]⟩ := by
  obtain ⟨c, h1, h2⟩ := res82
  exact ⟨by kernel_rfl, _, c, Tryz.func82, h1, Tryz.ntmps82, ⟨_, h2⟩, rr82⟩
def r6 : RCode :=
  (.seq (.region [
    ⟨(some 5), none, .act, .box (.tmp 2)⟩])
  (.seq (.seq (.region [
    ⟨(some 7), none, .act, .mv (.tmp 0)⟩,
    ⟨(some 8), none, .act, .call 20 [(.tmp 7)]⟩,
    ⟨(some 9), none, .act, .un .not (.tmp 8)⟩,
    ⟨(some 10), none, .act, .mv (.tmp 9)⟩,
    ⟨(some 11), (some (10, false)), .act, .mv (.tmp 0)⟩,
    ⟨(some 12), (some (10, false)), .act, .nilCheck (.tmp 11)⟩,
    ⟨(some 13), (some (10, false)), .act, .fieldAddr 1 (.tmp 12)⟩,
    ⟨(some 14), (some (10, false)), .act, .load false 1 (.tmp 13)⟩,
    ⟨(some 15), (some (10, false)), .act, .mv (.tmp 1)⟩,
    ⟨(some 16), (some (10, false)), .act, .lookup 30 (.pointer none) (.tmp 14) (.tmp 15) false⟩,
    ⟨(some 17), (some (10, false)), .act, .eq false .ptr (.tmp 16) (.const (.pointer none))⟩,
    ⟨(some 18), none, .act, .pick (.tmp 10) (.const (.bool true)) (.tmp 17)⟩,
    ⟨(some 19), none, .act, .mv (.tmp 18)⟩,
    ⟨(some 20), (some (19, false)), .act, .mv (.tmp 0)⟩,
    ⟨(some 21), (some (19, false)), .act, .nilCheck (.tmp 20)⟩,
    ⟨(some 22), (some (19, false)), .act, .fieldAddr 1 (.tmp 21)⟩,
    ⟨(some 23), (some (19, false)), .act, .load false 1 (.tmp 22)⟩,
    ⟨(some 24), (some (19, false)), .act, .mv (.tmp 1)⟩,
    ⟨(some 25), (some (19, false)), .act, .lookup 30 (.pointer none) (.tmp 23) (.tmp 24) false⟩,
    ⟨(some 26), (some (19, false)), .act, .nilCheck (.tmp 25)⟩,
    ⟨(some 27), (some (19, false)), .act, .fieldAddr 25 (.tmp 26)⟩,
    ⟨(some 28), (some (19, false)), .act, .load false 1 (.tmp 27)⟩,
    ⟨(some 29), (some (19, false)), .act, .un .not (.tmp 28)⟩,
    ⟨(some 30), none, .act, .pick (.tmp 19) (.const (.bool true)) (.tmp 29)⟩])
  (.cond (.tmp 30)
   .ret
   .skip))
  (.seq (.region [
    ⟨(some 31), none, .act, .mv (.tmp 0)⟩,
    ⟨(some 32), none, .act, .nilCheck (.tmp 31)⟩,
    ⟨(some 33), none, .act, .fieldAddr 1 (.tmp 32)⟩,
    ⟨(some 34), none, .act, .load false 1 (.tmp 33)⟩,
    ⟨(some 35), none, .act, .mv (.tmp 1)⟩,
    ⟨(some 36), none, .act, .lookup 30 (.pointer none) (.tmp 34) (.tmp 35) false⟩,
    ⟨(some 6), none, .act, .mv (.tmp 36)⟩])
  (.seq (.region [
    ⟨(some 37), none, .act, .mv (.tmp 6)⟩,
    ⟨(some 38), none, .act, .nilCheck (.tmp 37)⟩,
    ⟨(some 39), none, .act, .fieldAddr 25 (.tmp 38)⟩,
    ⟨none, none, .act, .store 1 (.tmp 39) (.const (.bool false))⟩])
  (.seq (.region [
    ⟨(some 40), none, .act, .mv (.tmp 0)⟩,
    ⟨(some 41), none, .act, .mv (.tmp 6)⟩,
    ⟨(some 42), none, .act, .load true 7 (.tmp 5)⟩,
    ⟨(some 43), none, .act, .call 21 [(.tmp 40), (.tmp 41), (.tmp 42)]⟩])
  (.seq (.region [
    ⟨(some 44), none, .act, .mv (.tmp 6)⟩,
    ⟨(some 45), none, .act, .nilCheck (.tmp 44)⟩,
    ⟨(some 46), none, .act, .fieldAddr 7 (.tmp 45)⟩,
    ⟨(some 47), none, .act, .load false 1 (.tmp 46)⟩,
    ⟨(some 48), none, .act, .mv (.tmp 47)⟩,
    ⟨(some 49), (some (48, true)), .act, .mv (.tmp 6)⟩,
    ⟨(some 50), (some (48, true)), .act, .nilCheck (.tmp 49)⟩,
    ⟨(some 51), (some (48, true)), .act, .fieldAddr 6 (.tmp 50)⟩,
    ⟨(some 52), (some (48, true)), .act, .load false 1 (.tmp 51)⟩,
    ⟨(some 53), none, .act, .pick (.tmp 48) (.tmp 52) (.const (.bool false))⟩,
    ⟨(some 54), none, .act, .mv (.tmp 53)⟩,
    ⟨(some 55), (some (54, true)), .act, .mv (.tmp 6)⟩,
    ⟨(some 56), (some (54, true)), .act, .call 22 [(.tmp 55)]⟩,
    ⟨(some 57), (some (54, true)), .act, .un .not (.tmp 56)⟩,
    ⟨(some 58), none, .act, .pick (.tmp 54) (.tmp 57) (.const (.bool false))⟩])
  (.cond (.tmp 58)
   (.region [
     ⟨(some 59), none, .act, .mv (.tmp 0)⟩,
     ⟨(some 60), none, .act, .mv (.tmp 6)⟩,
     ⟨(some 61), none, .act, .call 23 [(.tmp 59), (.tmp 60)]⟩])
   .skip)))))))
theorem res6 : ∃ c, Tryz.f6.body = some c ∧ resCode Tryz.prog 62 c = some r6 := ⟨_, rfl, by kernel_rfl⟩
theorem rr6 : resRes Tryz.prog Tryz.f6.results.toList = some [] := by kernel_rfl
theorem fok6 : FOk Tryz.prog 6 ⟨r6, 62, []⟩ := by
  obtain ⟨c, h1, h2⟩ := res6
  exact ⟨by kernel_rfl, _, c, Tryz.func6, h1, Tryz.ntmps6, ⟨_, h2⟩, rr6⟩
def r21l0 : RCode :=
  (.seq (.region [
    ⟨(some 89), none, .act, .bin .lss (.tmp 88) (.tmp 87)⟩])
  (.seq (.cond (.tmp 89)
   .skip
   (.exit 1))
  (.seq (.block 2
   (.seq (.region [
     ⟨(some 90), none, .act, .indexAddr 3 (.tmp 86) (.tmp 88)⟩,
     ⟨(some 91), none, .act, .load true 3 (.tmp 90)⟩,
     ⟨(some 7), none, .act, .alloc [(.int .u64 0), (.int .i64 0), (.int .u64 0)]⟩,
     ⟨none, none, .act, .store 3 (.tmp 7) (.tmp 91)⟩])
   (.region [
     ⟨(some 92), none, .pure, .mv (.tmp 1)⟩,
     ⟨(some 93), none, .pure, .nilCheck (.tmp 92)⟩,
     ⟨(some 94), none, .pure, .fieldAddr 54 (.tmp 93)⟩,
     ⟨(some 95), none, .read, .load false 1 (.tmp 94)⟩,
     ⟨(some 96), none, .pure, .fieldAddr 0 (.tmp 7)⟩,
     ⟨(some 97), none, .read, .load false 1 (.tmp 96)⟩,
     ⟨(some 98), none, .read, .load true 3 (.tmp 7)⟩,
     ⟨none, none, .act, .mapUpdate 30 (.tmp 95) (.tmp 97) (.tmp 98)⟩])))
  (.region [
    ⟨(some 99), none, .act, .bin .add (.tmp 88) (.const (.int .i64 1))⟩,
    ⟨(some 88), none, .act, .mv (.tmp 99)⟩]))))
def r21 : RCode :=
  (.seq (.region [
    ⟨(some 5), none, .act, .box (.tmp 2)⟩])
  (.seq (.region [
    ⟨(some 8), none, .act, .mv (.tmp 1)⟩,
    ⟨(some 9), none, .act, .nilCheck (.tmp 8)⟩,
    ⟨(some 10), none, .act, .fieldAddr 19 (.tmp 9)⟩,
    ⟨(some 11), none, .act, .load false 1 (.tmp 10)⟩])
  (.block 0
   (.seq (.region [
     ⟨(some 13), none, .act, .eq false .int (.tmp 11) (.const (.int .i64 1))⟩,
     ⟨(some 12), none, .act, .mv (.tmp 13)⟩])
   (.cond (.tmp 12)
    (.seq (.regionT (.step ⟨(some 14), none, .pure, .mv (.tmp 1)⟩ (.step ⟨(some 15), none, .pure, .mv (.tmp 1)⟩ (.step ⟨(some 16), none, .pure, .mv (.tmp 1)⟩ (.step ⟨(some 17), none, .pure, .fieldAddr 1 (.tmp 5)⟩ (.step ⟨(some 18), none, .read, .load false 1 (.tmp 17)⟩ (.step ⟨(some 19), none, .pure, .mv (.tmp 1)⟩ (.step ⟨(some 20), none, .pure, .nilCheck (.tmp 19)⟩ (.step ⟨(some 21), none, .pure, .fieldAddr 8 (.tmp 20)⟩ (.step ⟨(some 22), none, .pure, .fieldAddr 1 (.tmp 21)⟩ (.step ⟨(some 23), none, .read, .load false 1 (.tmp 22)⟩ (.step ⟨(some 24), none, .pure, .fieldAddr 2 (.tmp 5)⟩ (.step ⟨(some 26), none, .pure, .nilCheck (.tmp 14)⟩ (.step ⟨(some 27), none, .pure, .fieldAddr 0 (.tmp 26)⟩ (.alt ⟨(some 25), none, .read, .load false 1 (.tmp 24)⟩ (.alt ⟨none, none, .act, .store 1 (.tmp 27) (.tmp 18)⟩ (.step ⟨(some 28), none, .pure, .nilCheck (.tmp 15)⟩ (.step ⟨(some 29), none, .pure, .fieldAddr 1 (.tmp 28)⟩ (.alt ⟨none, none, .act, .store 1 (.tmp 29) (.tmp 23)⟩ (.step ⟨(some 30), none, .pure, .nilCheck (.tmp 16)⟩ (.step ⟨(some 31), none, .pure, .fieldAddr 2 (.tmp 30)⟩ (.alt ⟨none, none, .act, .store 1 (.tmp 31) (.tmp 25)⟩ .done
    .stop)))
    .stop)))
    .stop)
    (.alt ⟨none, none, .act, .store 1 (.tmp 27) (.tmp 18)⟩ (.step ⟨(some 28), none, .pure, .nilCheck (.tmp 15)⟩ (.step ⟨(some 29), none, .pure, .fieldAddr 1 (.tmp 28)⟩ (.alt ⟨(some 25), none, .read, .load false 1 (.tmp 24)⟩ (.alt ⟨none, none, .act, .store 1 (.tmp 29) (.tmp 23)⟩ (.step ⟨(some 30), none, .pure, .nilCheck (.tmp 16)⟩ (.step ⟨(some 31), none, .pure, .fieldAddr 2 (.tmp 30)⟩ (.alt ⟨none, none, .act, .store 1 (.tmp 31) (.tmp 25)⟩ .done
    .stop)))
    .stop)
    (.alt ⟨none, none, .act, .store 1 (.tmp 29) (.tmp 23)⟩ (.step ⟨(some 25), none, .read, .load false 1 (.tmp 24)⟩ (.step ⟨(some 30), none, .pure, .nilCheck (.tmp 16)⟩ (.step ⟨(some 31), none, .pure, .fieldAddr 2 (.tmp 30)⟩ (.alt ⟨none, none, .act, .store 1 (.tmp 31) (.tmp 25)⟩ .done
    .stop))))
    .stop))))
    .stop))))))))))))))))
    (.seq (.region [
      ⟨(some 32), none, .act, .mv (.tmp 0)⟩,
      ⟨(some 33), none, .act, .mv (.tmp 1)⟩,
      ⟨(some 34), none, .act, .fieldAddr 2 (.tmp 5)⟩,
      ⟨(some 35), none, .act, .load false 1 (.tmp 34)⟩,
      ⟨(some 36), none, .act, .build [(.int .i64 0), (.int .u64 0), (.int .i64 0), (.int .u64 0), (.slice none 0 0), (.slice none 0 0), (.slice none 0 0), (.slice none 0 0)] [(0, 1, (.const (.int .i64 1))), (3, 1, (.tmp 35))]⟩,
      ⟨(some 37), none, .act, .call 39 [(.tmp 32), (.tmp 33), (.tmp 36)]⟩])
    (.region [
      ⟨(some 38), none, .act, .mv (.tmp 1)⟩,
      ⟨(some 39), none, .act, .fieldAddr 2 (.tmp 5)⟩,
      ⟨(some 40), none, .act, .load false 1 (.tmp 39)⟩,
      ⟨(some 41), none, .act, .build [(.int .i64 0), (.slice none 0 0), (.slice none 0 0), (.int .u64 0)] [(3, 1, (.tmp 40))]⟩,
      ⟨(some 42), none, .act, .call 40 [(.tmp 38), (.tmp 41)]⟩])))
    (.seq (.seq (.region [
      ⟨(some 44), none, .act, .eq false .int (.tmp 11) (.const (.int .i64 2))⟩,
      ⟨(some 43), none, .act, .mv (.tmp 44)⟩])
    (.cond (.tmp 43)
     .skip
     (.region [
       ⟨(some 45), none, .act, .eq false .int (.tmp 11) (.const (.int .i64 3))⟩,
       ⟨(some 43), none, .act, .mv (.tmp 45)⟩])))
    (.cond (.tmp 43)
     (.region [
       ⟨(some 46), none, .act, .mv (.tmp 1)⟩,
       ⟨(some 47), none, .act, .fieldAddr 0 (.tmp 5)⟩,
       ⟨(some 48), none, .act, .load false 1 (.tmp 47)⟩,
       ⟨(some 49), none, .act, .fieldAddr 6 (.tmp 5)⟩,
       ⟨(some 50), none, .act, .load false 1 (.tmp 49)⟩,
       ⟨(some 51), none, .act, .build [(.int .i64 0), (.slice none 0 0), (.slice none 0 0), (.int .u64 0)] [(0, 1, (.tmp 48)), (2, 1, (.tmp 50))]⟩,
       ⟨(some 52), none, .act, .call 40 [(.tmp 46), (.tmp 51)]⟩])
     (.seq (.region [
       ⟨(some 54), none, .act, .eq false .int (.tmp 11) (.const (.int .i64 4))⟩,
       ⟨(some 53), none, .act, .mv (.tmp 54)⟩])
     (.cond (.tmp 53)
      (.region [
        ⟨(some 55), none, .act, .mv (.tmp 0)⟩,
        ⟨(some 56), none, .act, .mv (.tmp 1)⟩,
        ⟨(some 57), none, .act, .load true 7 (.tmp 5)⟩,
        ⟨(some 58), none, .act, .call 41 [(.tmp 55), (.tmp 56), (.tmp 57)]⟩])
      (.seq (.region [
        ⟨(some 60), none, .act, .eq false .int (.tmp 11) (.const (.int .i64 5))⟩,
        ⟨(some 59), none, .act, .mv (.tmp 60)⟩])
      (.cond (.tmp 59)
       (.seq (.region [
         ⟨(some 61), none, .pure, .mv (.tmp 1)⟩,
         ⟨(some 62), none, .pure, .nilCheck (.tmp 61)⟩,
         ⟨(some 63), none, .pure, .fieldAddr 49 (.tmp 62)⟩,
         ⟨(some 64), none, .read, .load false 1 (.tmp 63)⟩,
         ⟨(some 65), none, .pure, .mv (.tmp 1)⟩,
         ⟨(some 66), none, .pure, .nilCheck (.tmp 65)⟩,
         ⟨(some 67), none, .pure, .fieldAddr 56 (.tmp 66)⟩,
         ⟨(some 68), none, .read, .load false 1 (.tmp 67)⟩,
         ⟨(some 69), none, .pure, .fieldAddr 5 (.tmp 5)⟩,
         ⟨(some 70), none, .read, .load false 1 (.tmp 69)⟩,
         ⟨(some 71), none, .pure, .indexAddr 3 (.tmp 64) (.tmp 68)⟩,
         ⟨(some 72), none, .pure, .fieldAddr 2 (.tmp 71)⟩,
         ⟨none, none, .act, .store 1 (.tmp 72) (.tmp 70)⟩])
       (.seq (.region [
         ⟨(some 73), none, .act, .mv (.tmp 1)⟩,
         ⟨(some 74), none, .act, .nilCheck (.tmp 73)⟩,
         ⟨(some 75), none, .act, .fieldAddr 56 (.tmp 74)⟩,
         ⟨(some 76), none, .act, .load false 1 (.tmp 75)⟩,
         ⟨(some 77), none, .act, .bin .add (.tmp 76) (.const (.int .i64 1))⟩,
         ⟨(some 78), none, .act, .nilCheck (.tmp 73)⟩,
         ⟨(some 79), none, .act, .fieldAddr 56 (.tmp 78)⟩,
         ⟨none, none, .act, .store 1 (.tmp 79) (.tmp 77)⟩])
       (.region [
         ⟨(some 80), none, .act, .mv (.tmp 0)⟩,
         ⟨(some 81), none, .act, .mv (.tmp 1)⟩,
         ⟨(some 82), none, .act, .call 42 [(.tmp 80), (.tmp 81)]⟩])))
       (.seq (.region [
         ⟨(some 84), none, .act, .eq false .int (.tmp 11) (.const (.int .i64 6))⟩,
         ⟨(some 83), none, .act, .mv (.tmp 84)⟩])
       (.cond (.tmp 83)
        (.seq (.seq (.region [
          ⟨(some 85), none, .act, .fieldAddr 4 (.tmp 5)⟩,
          ⟨(some 86), none, .act, .load false 1 (.tmp 85)⟩,
          ⟨(some 87), none, .act, .len (.tmp 86)⟩,
          ⟨(some 88), none, .act, .mv (.const (.int .i64 0))⟩])
        (.block 1
         (.loop r21l0)))
        (.region [
          ⟨(some 100), none, .act, .mv (.tmp 0)⟩,
          ⟨(some 101), none, .act, .mv (.tmp 1)⟩,
          ⟨(some 102), none, .act, .call 43 [(.tmp 100), (.tmp 101)]⟩]))
        (.seq (.region [
          ⟨(some 104), none, .act, .eq false .int (.tmp 11) (.const (.int .i64 7))⟩,
          ⟨(some 103), none, .act, .mv (.tmp 104)⟩])
        (.cond (.tmp 103)
         (.region [
           ⟨(some 105), none, .act, .mv (.tmp 0)⟩,
           ⟨(some 106), none, .act, .mv (.tmp 1)⟩,
           ⟨(some 107), none, .act, .load true 7 (.tmp 5)⟩,
           ⟨(some 108), none, .act, .call 44 [(.tmp 105), (.tmp 106), (.tmp 107)]⟩])
         (.seq (.region [
           ⟨(some 110), none, .act, .eq false .int (.tmp 11) (.const (.int .i64 8))⟩,
           ⟨(some 109), none, .act, .mv (.tmp 110)⟩])
         (.cond (.tmp 109)
          (.region [
            ⟨(some 111), none, .act, .mv (.tmp 0)⟩,
            ⟨(some 112), none, .act, .mv (.tmp 1)⟩,
            ⟨(some 113), none, .act, .load true 7 (.tmp 5)⟩,
            ⟨(some 114), none, .act, .call 45 [(.tmp 111), (.tmp 112), (.tmp 113)]⟩])
          (.seq (.seq (.region [
            ⟨(some 116), none, .act, .eq false .int (.tmp 11) (.const (.int .i64 9))⟩,
            ⟨(some 115), none, .act, .mv (.tmp 116)⟩])
          (.cond (.tmp 115)
           .skip
           (.region [
             ⟨(some 117), none, .act, .eq false .int (.tmp 11) (.const (.int .i64 10))⟩,
             ⟨(some 115), none, .act, .mv (.tmp 117)⟩])))
          (.cond (.tmp 115)
           (.region [
             ⟨(some 118), none, .act, .mv (.tmp 0)⟩,
             ⟨(some 119), none, .act, .mv (.tmp 1)⟩,
             ⟨(some 120), none, .act, .load true 7 (.tmp 5)⟩,
             ⟨(some 121), none, .act, .call 46 [(.tmp 118), (.tmp 119), (.tmp 120)]⟩])
           (.seq (.region [
             ⟨(some 123), none, .act, .eq false .int (.tmp 11) (.const (.int .i64 11))⟩,
             ⟨(some 122), none, .act, .mv (.tmp 123)⟩])
           (.cond (.tmp 122)
            (.seq (.region [
              ⟨(some 124), none, .act, .mv (.tmp 1)⟩,
              ⟨(some 125), none, .act, .nilCheck (.tmp 124)⟩,
              ⟨(some 126), none, .act, .fieldAddr 56 (.tmp 125)⟩,
              ⟨(some 127), none, .act, .load false 1 (.tmp 126)⟩,
              ⟨(some 128), none, .act, .bin .add (.tmp 127) (.const (.int .i64 1))⟩,
              ⟨(some 129), none, .act, .nilCheck (.tmp 124)⟩,
              ⟨(some 130), none, .act, .fieldAddr 56 (.tmp 129)⟩,
              ⟨none, none, .act, .store 1 (.tmp 130) (.tmp 128)⟩])
            (.seq (.region [
              ⟨(some 131), none, .pure, .mv (.tmp 1)⟩,
              ⟨(some 132), none, .pure, .nilCheck (.tmp 131)⟩,
              ⟨(some 133), none, .pure, .fieldAddr 56 (.tmp 132)⟩,
              ⟨(some 134), none, .read, .load false 1 (.tmp 133)⟩,
              ⟨(some 135), none, .pure, .mv (.tmp 1)⟩,
              ⟨(some 136), none, .pure, .nilCheck (.tmp 135)⟩,
              ⟨(some 137), none, .pure, .fieldAddr 55 (.tmp 136)⟩,
              ⟨(some 138), none, .read, .load false 1 (.tmp 137)⟩,
              ⟨(some 139), none, .pure, .len (.tmp 138)⟩,
              ⟨(some 140), none, .pure, .eq false .int (.tmp 134) (.tmp 139)⟩])
            (.cond (.tmp 140)
             (.region [
               ⟨(some 141), none, .act, .mv (.tmp 1)⟩,
               ⟨(some 142), none, .act, .nilCheck (.tmp 141)⟩,
               ⟨(some 143), none, .act, .fieldAddr 19 (.tmp 142)⟩,
               ⟨none, none, .act, .store 1 (.tmp 143) (.const (.int .i64 12))⟩])
             .skip)))
            (.seq (.region [
              ⟨(some 145), none, .act, .eq false .int (.tmp 11) (.const (.int .i64 12))⟩,
              ⟨(some 144), none, .act, .mv (.tmp 145)⟩])
            (.cond (.tmp 144)
             (.seq (.region [
               ⟨(some 146), none, .act, .mv (.tmp 1)⟩,
               ⟨(some 147), none, .act, .call 47 [(.tmp 146)]⟩])
             (.seq (.region [
               ⟨(some 148), none, .act, .mv (.tmp 1)⟩,
               ⟨(some 149), none, .act, .mv (.tmp 1)⟩,
               ⟨(some 150), none, .act, .nilCheck (.tmp 149)⟩,
               ⟨(some 151), none, .act, .fieldAddr 20 (.tmp 150)⟩,
               ⟨(some 152), none, .act, .load true 4 (.tmp 151)⟩,
               ⟨(some 153), none, .act, .call 40 [(.tmp 148), (.tmp 152)]⟩])
             (.seq (.region [
               ⟨(some 154), none, .act, .mv (.tmp 1)⟩,
               ⟨(some 155), none, .act, .nilCheck (.tmp 154)⟩,
               ⟨(some 156), none, .act, .fieldAddr 7 (.tmp 155)⟩,
               ⟨(some 157), none, .act, .load false 1 (.tmp 156)⟩])
             (.cond (.tmp 157)
              (.region [
                ⟨(some 158), none, .act, .mv (.tmp 1)⟩,
                ⟨(some 159), none, .act, .call 48 [(.tmp 158)]⟩])
              .skip))))
             .skip)))))))))))))))))))))))
theorem res21 : ∃ c, Tryz.f21.body = some c ∧ resCode Tryz.prog 160 c = some r21 := ⟨_, rfl, by kernel_rfl⟩
theorem rr21 : resRes Tryz.prog Tryz.f21.results.toList = some [] := by kernel_rfl
theorem fok21 : FOk Tryz.prog 21 ⟨r21, 160, []⟩ := by
  obtain ⟨c, h1, h2⟩ := res21
  exact ⟨by kernel_rfl, _, c, Tryz.func21, h1, Tryz.ntmps21, ⟨_, h2⟩, rr21⟩
def r39 : RCode :=
  (.seq (.region [
    ⟨(some 5), none, .act, .box (.tmp 2)⟩])
  (.seq (.regionT (.step ⟨(some 6), none, .pure, .mv (.tmp 1)⟩ (.step ⟨(some 7), none, .pure, .nilCheck (.tmp 6)⟩ (.step ⟨(some 8), none, .pure, .fieldAddr 0 (.tmp 7)⟩ (.step ⟨(some 9), none, .read, .load false 1 (.tmp 8)⟩ (.step ⟨(some 10), none, .pure, .mv (.tmp 1)⟩ (.step ⟨(some 11), none, .pure, .nilCheck (.tmp 10)⟩ (.step ⟨(some 12), none, .pure, .fieldAddr 1 (.tmp 11)⟩ (.step ⟨(some 14), none, .pure, .fieldAddr 1 (.tmp 5)⟩ (.alt ⟨(some 13), none, .read, .load false 1 (.tmp 12)⟩ (.alt ⟨none, none, .act, .store 1 (.tmp 14) (.tmp 9)⟩ (.step ⟨(some 15), none, .pure, .fieldAddr 2 (.tmp 5)⟩ (.alt ⟨none, none, .act, .store 1 (.tmp 15) (.tmp 13)⟩ .done
    .stop))
    .stop)
    (.alt ⟨none, none, .act, .store 1 (.tmp 14) (.tmp 9)⟩ (.step ⟨(some 13), none, .read, .load false 1 (.tmp 12)⟩ (.step ⟨(some 15), none, .pure, .fieldAddr 2 (.tmp 5)⟩ (.alt ⟨none, none, .act, .store 1 (.tmp 15) (.tmp 13)⟩ .done
    .stop)))
    .stop)))))))))))
  (.region [
    ⟨(some 16), none, .pure, .mv (.tmp 0)⟩,
    ⟨(some 17), none, .pure, .mv (.tmp 0)⟩,
    ⟨(some 18), none, .pure, .nilCheck (.tmp 17)⟩,
    ⟨(some 19), none, .pure, .fieldAddr 2 (.tmp 18)⟩,
    ⟨(some 20), none, .read, .load false 1 (.tmp 19)⟩,
    ⟨(some 21), none, .read, .load true 8 (.tmp 5)⟩,
    ⟨(some 22), none, .pure, .buildSl 8 [(.int .i64 0), (.int .u64 0), (.int .i64 0), (.int .u64 0), (.slice none 0 0), (.slice none 0 0), (.slice none 0 0), (.slice none 0 0)] 1 [(0, (.tmp 21))]⟩,
    ⟨(some 23), none, .act, .append 8 128 [(.int .i64 0), (.int .u64 0), (.int .i64 0), (.int .u64 0), (.slice none 0 0), (.slice none 0 0), (.slice none 0 0), (.slice none 0 0)] (.tmp 20) (.tmp 22)⟩,
    ⟨(some 24), none, .pure, .nilCheck (.tmp 16)⟩,
    ⟨(some 25), none, .pure, .fieldAddr 2 (.tmp 24)⟩,
    ⟨none, none, .act, .store 1 (.tmp 25) (.tmp 23)⟩])))
theorem res39 : ∃ c, Tryz.f39.body = some c ∧ resCode Tryz.prog 26 c = some r39 := ⟨_, rfl, by kernel_rfl⟩
theorem rr39 : resRes Tryz.prog Tryz.f39.results.toList = some [] := by kernel_rfl
theorem fok39 : FOk Tryz.prog 39 ⟨r39, 26, []⟩ := by
  obtain ⟨c, h1, h2⟩ := res39
  exact ⟨by kernel_rfl, _, c, Tryz.func39, h1, Tryz.ntmps39, ⟨_, h2⟩, rr39⟩
def r58l0 : RCode :=
  (.seq (.seq (.region [
    ⟨(some 14), none, .act, .mv (.tmp 4)⟩,
    ⟨(some 15), none, .act, .mv (.tmp 0)⟩,
    ⟨(some 16), none, .act, .nilCheck (.tmp 15)⟩,
    ⟨(some 17), none, .act, .fieldAddr 0 (.tmp 16)⟩,
    ⟨(some 18), none, .act, .load false 1 (.tmp 17)⟩,
    ⟨(some 19), none, .act, .len (.tmp 18)⟩,
    ⟨(some 20), none, .act, .bin .leq (.tmp 14) (.tmp 19)⟩])
  (.cond (.tmp 20)
   .skip
   (.exit 0)))
  (.seq (.block 1
   (.seq (.region [
     ⟨(some 23), none, .act, .mv (.tmp 0)⟩,
     ⟨(some 24), none, .act, .mv (.tmp 1)⟩,
     ⟨(some 25), none, .act, .mv (.tmp 4)⟩,
     ⟨(some 26), none, .act, .call 79 [(.tmp 23), (.tmp 24), (.tmp 25)]⟩,
     ⟨(some 27), none, .act, .len (.tmp 26)⟩,
     ⟨(some 28), none, .act, .bin .gtr (.tmp 27) (.const (.int .i64 0))⟩])
   (.cond (.tmp 28)
    (.region [
      ⟨(some 29), none, .act, .mv (.tmp 1)⟩,
      ⟨(some 30), none, .act, .mv (.tmp 1)⟩,
      ⟨(some 31), none, .act, .nilCheck (.tmp 30)⟩,
      ⟨(some 32), none, .act, .fieldAddr 55 (.tmp 31)⟩,
      ⟨(some 33), none, .act, .load false 1 (.tmp 32)⟩,
      ⟨(some 34), none, .act, .mv (.tmp 4)⟩,
      ⟨(some 35), none, .act, .buildSl 1 [(.int .i64 0)] 1 [(0, (.tmp 34))]⟩,
      ⟨(some 36), none, .act, .append 1 8 [(.int .i64 0)] (.tmp 33) (.tmp 35)⟩,
      ⟨(some 37), none, .act, .nilCheck (.tmp 29)⟩,
      ⟨(some 38), none, .act, .fieldAddr 55 (.tmp 37)⟩,
      ⟨none, none, .act, .store 1 (.tmp 38) (.tmp 36)⟩])
    .skip)))
  (.region [
    ⟨(some 21), none, .act, .mv (.tmp 4)⟩,
    ⟨(some 22), none, .act, .bin .add (.tmp 21) (.const (.int .i64 1))⟩,
    ⟨(some 4), none, .act, .mv (.tmp 22)⟩])))
def r58 : RCode :=
  (.seq (.region [
    ⟨(some 5), none, .act, .mv (.tmp 1)⟩,
    ⟨(some 6), none, .act, .mv (.tmp 1)⟩,
    ⟨(some 7), none, .act, .mv (.tmp 1)⟩,
    ⟨(some 8), none, .act, .nilCheck (.tmp 5)⟩,
    ⟨(some 9), none, .act, .fieldAddr 55 (.tmp 8)⟩,
    ⟨none, none, .act, .store 1 (.tmp 9) (.const (.slice none 0 0))⟩,
    ⟨(some 10), none, .act, .nilCheck (.tmp 6)⟩,
    ⟨(some 11), none, .act, .fieldAddr 56 (.tmp 10)⟩,
    ⟨none, none, .act, .store 1 (.tmp 11) (.const (.int .i64 0))⟩,
    ⟨(some 12), none, .act, .nilCheck (.tmp 7)⟩,
    ⟨(some 13), none, .act, .fieldAddr 57 (.tmp 12)⟩,
    ⟨none, none, .act, .store 1 (.tmp 13) (.const (.bool true))⟩])
  (.seq (.seq (.region [
    ⟨(some 4), none, .act, .mv (.const (.int .i64 0))⟩])
  (.block 0
   (.loop r58l0)))
  (.seq (.region [
    ⟨(some 39), none, .act, .mv (.tmp 1)⟩,
    ⟨(some 40), none, .act, .nilCheck (.tmp 39)⟩,
    ⟨(some 41), none, .act, .fieldAddr 19 (.tmp 40)⟩,
    ⟨none, none, .act, .store 1 (.tmp 41) (.const (.int .i64 8))⟩])
  (.seq (.region [
    ⟨(some 42), none, .act, .mv (.tmp 1)⟩,
    ⟨(some 43), none, .act, .nilCheck (.tmp 42)⟩,
    ⟨(some 44), none, .act, .fieldAddr 55 (.tmp 43)⟩,
    ⟨(some 45), none, .act, .load false 1 (.tmp 44)⟩,
    ⟨(some 46), none, .act, .len (.tmp 45)⟩,
    ⟨(some 47), none, .act, .eq false .int (.tmp 46) (.const (.int .i64 0))⟩])
  (.cond (.tmp 47)
   (.region [
     ⟨(some 48), none, .act, .mv (.tmp 1)⟩,
     ⟨(some 49), none, .act, .nilCheck (.tmp 48)⟩,
     ⟨(some 50), none, .act, .fieldAddr 19 (.tmp 49)⟩,
     ⟨none, none, .act, .store 1 (.tmp 50) (.const (.int .i64 9))⟩])
   .skip)))))
theorem res58 : ∃ c, Tryz.f58.body = some c ∧ resCode Tryz.prog 51 c = some r58 := ⟨_, rfl, by kernel_rfl⟩
theorem rr58 : resRes Tryz.prog Tryz.f58.results.toList = some [] := by kernel_rfl
theorem fok58 : FOk Tryz.prog 58 ⟨r58, 51, []⟩ := by
  obtain ⟨c, h1, h2⟩ := res58
  exact ⟨by kernel_rfl, _, c, Tryz.func58, h1, Tryz.ntmps58, ⟨_, h2⟩, rr58⟩
def r79l0 : RCode :=
  (.seq (.region [
    ⟨(some 14), none, .act, .bin .lss (.tmp 13) (.tmp 12)⟩])
  (.seq (.cond (.tmp 14)
   .skip
   (.exit 0))
  (.seq (.block 1
   (.seq (.region [
     ⟨(some 15), none, .act, .indexAddr 3 (.tmp 11) (.tmp 13)⟩,
     ⟨(some 16), none, .act, .load true 3 (.tmp 15)⟩,
     ⟨(some 9), none, .act, .alloc [(.slice none 0 0), (.bool false), (.slice none 0 0)]⟩,
     ⟨none, none, .act, .store 3 (.tmp 9) (.tmp 16)⟩])
   (.seq (.region [
     ⟨(some 17), none, .pure, .mv (.tmp 0)⟩,
     ⟨(some 18), none, .pure, .nilCheck (.tmp 17)⟩,
     ⟨(some 19), none, .pure, .fieldAddr 0 (.tmp 18)⟩,
     ⟨(some 20), none, .read, .load false 1 (.tmp 19)⟩,
     ⟨(some 21), none, .pure, .fieldAddr 0 (.tmp 9)⟩,
     ⟨(some 22), none, .read, .load false 1 (.tmp 21)⟩,
     ⟨(some 24), none, .pure, .mv (.tmp 2)⟩,
     ⟨(some 23), none, .act, .call 78 [(.tmp 20), (.tmp 22)]⟩,
     ⟨(some 25), none, .pure, .eq false .int (.tmp 23) (.tmp 24)⟩])
   (.cond (.tmp 25)
    (.region [
      ⟨(some 26), none, .act, .mv (.tmp 7)⟩,
      ⟨(some 27), none, .act, .load true 3 (.tmp 9)⟩,
      ⟨(some 28), none, .act, .buildSl 3 [(.slice none 0 0), (.bool false), (.slice none 0 0)] 1 [(0, (.tmp 27))]⟩,
      ⟨(some 29), none, .act, .append 3 56 [(.slice none 0 0), (.bool false), (.slice none 0 0)] (.tmp 26) (.tmp 28)⟩,
      ⟨(some 7), none, .act, .mv (.tmp 29)⟩])
    .skip))))
  (.region [
    ⟨(some 30), none, .act, .bin .add (.tmp 13) (.const (.int .i64 1))⟩,
    ⟨(some 13), none, .act, .mv (.tmp 30)⟩]))))
def r79 : RCode :=
  (.seq (.region [
    ⟨(some 6), none, .act, .mv (.const (.slice none 0 0))⟩])
  (.seq (.region [
    ⟨(some 7), none, .act, .mv (.const (.slice none 0 0))⟩])
  (.seq (.seq (.region [
    ⟨(some 10), none, .act, .mv (.tmp 1)⟩,
    ⟨(some 11), none, .act, .call 95 [(.tmp 10)]⟩,
    ⟨(some 12), none, .act, .len (.tmp 11)⟩,
    ⟨(some 13), none, .act, .mv (.const (.int .i64 0))⟩])
  (.block 0
   (.loop r79l0)))
  (.seq (.region [
    ⟨(some 31), none, .act, .mv (.tmp 7)⟩,
    ⟨(some 6), none, .act, .mv (.tmp 31)⟩])
  .ret))))
theorem res79 : ∃ c, Tryz.f79.body = some c ∧ resCode Tryz.prog 32 c = some r79 := ⟨_, rfl, by kernel_rfl⟩
theorem rr79 : resRes Tryz.prog Tryz.f79.results.toList = some [.tmp 6] := by kernel_rfl
theorem fok79 : FOk Tryz.prog 79 ⟨r79, 32, [.tmp 6]⟩ := by
  obtain ⟨c, h1, h2⟩ := res79
  exact ⟨by kernel_rfl, _, c, Tryz.func79, h1, Tryz.ntmps79, ⟨_, h2⟩, rr79⟩
def r95l0 : RCode :=
  (.seq (.region [
    ⟨(some 16), none, .act, .bin .lss (.tmp 15) (.tmp 14)⟩])
  (.seq (.cond (.tmp 16)
   .skip
   (.exit 0))
  (.seq (.block 1
   (.seq (.region [
     ⟨(some 17), none, .act, .indexAddr 3 (.tmp 13) (.tmp 15)⟩,
     ⟨(some 18), none, .act, .load true 3 (.tmp 17)⟩,
     ⟨(some 5), none, .act, .alloc [(.slice none 0 0), (.bool false), (.slice none 0 0)]⟩,
     ⟨none, none, .act, .store 3 (.tmp 5) (.tmp 18)⟩])
   (.region [
     ⟨(some 19), none, .act, .mv (.tmp 3)⟩,
     ⟨(some 20), none, .act, .fieldAddr 0 (.tmp 5)⟩,
     ⟨(some 21), none, .act, .load false 1 (.tmp 20)⟩,
     ⟨(some 22), none, .act, .toStr (.tmp 21)⟩,
     ⟨(some 23), none, .act, .load true 3 (.tmp 5)⟩,
     ⟨none, none, .act, .mapUpdate 9 (.tmp 19) (.tmp 22) (.tmp 23)⟩])))
  (.region [
    ⟨(some 24), none, .act, .bin .add (.tmp 15) (.const (.int .i64 1))⟩,
    ⟨(some 15), none, .act, .mv (.tmp 24)⟩]))))
def r95l1 : RCode :=
  (.seq (.region [
    ⟨(some 30), none, .act, .bin .lss (.tmp 29) (.tmp 28)⟩])
  (.seq (.cond (.tmp 30)
   .skip
   (.exit 2))
  (.seq (.block 3
   (.seq (.region [
     ⟨(some 31), none, .act, .indexAddr 1 (.tmp 27) (.tmp 29)⟩,
     ⟨(some 32), none, .act, .load false 1 (.tmp 31)⟩,
     ⟨(some 8), none, .act, .mv (.tmp 32)⟩])
   (.region [
     ⟨(some 33), none, .act, .mv (.tmp 6)⟩,
     ⟨(some 34), none, .act, .mv (.tmp 3)⟩,
     ⟨(some 35), none, .act, .mv (.tmp 8)⟩,
     ⟨(some 36), none, .act, .lookup 9 (.agg #[(.slice none 0 0), (.bool false), (.slice none 0 0)]) (.tmp 34) (.tmp 35) false⟩,
     ⟨(some 37), none, .act, .buildSl 3 [(.slice none 0 0), (.bool false), (.slice none 0 0)] 1 [(0, (.tmp 36))]⟩,
     ⟨(some 38), none, .act, .append 3 56 [(.slice none 0 0), (.bool false), (.slice none 0 0)] (.tmp 33) (.tmp 37)⟩,
     ⟨(some 6), none, .act, .mv (.tmp 38)⟩])))
  (.region [
    ⟨(some 39), none, .act, .bin .add (.tmp 29) (.const (.int .i64 1))⟩,
    ⟨(some 29), none, .act, .mv (.tmp 39)⟩]))))
def r95 : RCode :=
  (.seq (.region [
    ⟨(some 2), none, .act, .mv (.const (.slice none 0 0))⟩])
  (.seq (.region [
    ⟨(some 9), none, .act, .makeMap⟩,
    ⟨(some 3), none, .act, .mv (.tmp 9)⟩])
  (.seq (.seq (.region [
    ⟨(some 10), none, .act, .mv (.tmp 0)⟩,
    ⟨(some 11), none, .act, .nilCheck (.tmp 10)⟩,
    ⟨(some 12), none, .act, .fieldAddr 3 (.tmp 11)⟩,
    ⟨(some 13), none, .act, .load false 1 (.tmp 12)⟩,
    ⟨(some 14), none, .act, .len (.tmp 13)⟩,
    ⟨(some 15), none, .act, .mv (.const (.int .i64 0))⟩])
  (.block 0
   (.loop r95l0)))
  (.seq (.region [
    ⟨(some 6), none, .act, .mv (.const (.slice none 0 0))⟩])
  (.seq (.seq (.region [
    ⟨(some 25), none, .act, .mv (.tmp 3)⟩,
    ⟨(some 26), none, .act, .call 121 [(.tmp 25)]⟩,
    ⟨(some 27), none, .act, .call 93 [(.tmp 26)]⟩,
    ⟨(some 28), none, .act, .len (.tmp 27)⟩,
    ⟨(some 29), none, .act, .mv (.const (.int .i64 0))⟩])
  (.block 2
   (.loop r95l1)))
  (.seq (.region [
    ⟨(some 40), none, .act, .mv (.tmp 6)⟩,
    ⟨(some 2), none, .act, .mv (.tmp 40)⟩])
  .ret))))))
theorem res95 : ∃ c, Tryz.f95.body = some c ∧ resCode Tryz.prog 41 c = some r95 := ⟨_, rfl, by kernel_rfl⟩
theorem rr95 : resRes Tryz.prog Tryz.f95.results.toList = some [.tmp 2] := by kernel_rfl
theorem fok95 : FOk Tryz.prog 95 ⟨r95, 41, [.tmp 2]⟩ := by
  obtain ⟨c, h1, h2⟩ := res95
  exact ⟨by kernel_rfl, _, c, Tryz.func95, h1, Tryz.ntmps95, ⟨_, h2⟩, rr95⟩
def r121 : RCode :=
  (.seq (.region [
    ⟨(some 1), none, .act, .box (.tmp 0)⟩,
    ⟨(some 2), none, .act, .mv (.const .nilFunc)⟩])
  (.seq (.region [
    ⟨(some 3), none, .act, .makeFunc (.func 155) [] [(.tmp 1)]⟩,
    ⟨(some 2), none, .act, .mv (.tmp 3)⟩])
  .ret))
theorem res121 : ∃ c, Tryz.f121.body = some c ∧ resCode Tryz.prog 4 c = some r121 := ⟨_, rfl, by kernel_rfl⟩
theorem rr121 : resRes Tryz.prog Tryz.f121.results.toList = some [.tmp 2] := by kernel_rfl
theorem fok121 : FOk Tryz.prog 121 ⟨r121, 4, [.tmp 2]⟩ := by
  obtain ⟨c, h1, h2⟩ := res121
  exact ⟨by kernel_rfl, _, c, Tryz.func121, h1, Tryz.ntmps121, ⟨_, h2⟩, rr121⟩
def r93 : RCode :=
  (.seq (.region [
    ⟨(some 2), none, .act, .mv (.const (.slice none 0 0))⟩])
  (.seq (.region [
    ⟨(some 4), none, .act, .mv (.tmp 0)⟩,
    ⟨(some 5), none, .act, .call 118 [(.tmp 4)]⟩,
    ⟨(some 3), none, .act, .mv (.tmp 5)⟩])
  (.seq (.region [
    ⟨(some 6), none, .act, .mv (.tmp 3)⟩,
    ⟨(some 7), none, .act, .call 119 [(.tmp 6)]⟩])
  (.seq (.region [
    ⟨(some 8), none, .act, .mv (.tmp 3)⟩,
    ⟨(some 2), none, .act, .mv (.tmp 8)⟩])
  .ret))))
theorem res93 : ∃ c, Tryz.f93.body = some c ∧ resCode Tryz.prog 9 c = some r93 := ⟨_, rfl, by kernel_rfl⟩
theorem rr93 : resRes Tryz.prog Tryz.f93.results.toList = some [.tmp 2] := by kernel_rfl
theorem fok93 : FOk Tryz.prog 93 ⟨r93, 9, [.tmp 2]⟩ := by
  obtain ⟨c, h1, h2⟩ := res93
  exact ⟨by kernel_rfl, _, c, Tryz.func93, h1, Tryz.ntmps93, ⟨_, h2⟩, rr93⟩
def r118 : RCode :=
  (.seq (.region [
    ⟨(some 2), none, .act, .mv (.const (.slice none 0 0))⟩])
  (.seq (.region [
    ⟨(some 3), none, .act, .mv (.tmp 0)⟩,
    ⟨(some 4), none, .act, .call 153 [(.const (.slice none 0 0)), (.tmp 3)]⟩,
    ⟨(some 2), none, .act, .mv (.tmp 4)⟩])
  .ret))
theorem res118 : ∃ c, Tryz.f118.body = some c ∧ resCode Tryz.prog 5 c = some r118 := ⟨_, rfl, by kernel_rfl⟩
theorem rr118 : resRes Tryz.prog Tryz.f118.results.toList = some [.tmp 2] := by kernel_rfl
theorem fok118 : FOk Tryz.prog 118 ⟨r118, 5, [.tmp 2]⟩ := by
  obtain ⟨c, h1, h2⟩ := res118
  exact ⟨by kernel_rfl, _, c, Tryz.func118, h1, Tryz.ntmps118, ⟨_, h2⟩, rr118⟩
def r153b0 : RCode :=
  (.block 1
   (.region [
     ⟨(some 8), none, .act, .load false 1 (.tmp 2)⟩,
     ⟨(some 9), none, .act, .mv (.tmp 5)⟩,
     ⟨(some 10), none, .act, .buildSl 1 [(.string ⟨#[]⟩)] 1 [(0, (.tmp 9))]⟩,
     ⟨(some 11), none, .act, .append 1 16 [(.string ⟨#[]⟩)] (.tmp 8) (.tmp 10)⟩,
     ⟨none, none, .act, .store 1 (.tmp 2) (.tmp 11)⟩]))
def r153 : RCode :=
  (.seq (.region [
    ⟨(some 2), none, .act, .box (.tmp 0)⟩,
    ⟨(some 4), none, .act, .mv (.const (.slice none 0 0))⟩])
  (.seq (.seq (.region [
    ⟨(some 6), none, .act, .mv (.tmp 1)⟩])
  (.block 0
   (.rangeFunc (.tmp 6) #[7] (.region [
    ⟨(some 5), none, .act, .mv (.tmp 7)⟩]) r153b0)))
  (.seq (.region [
    ⟨(some 12), none, .act, .load false 1 (.tmp 2)⟩,
    ⟨(some 4), none, .act, .mv (.tmp 12)⟩])
  .ret)))
theorem res153 : ∃ c, Tryz.f153.body = some c ∧ resCode Tryz.prog 13 c = some r153 := ⟨_, rfl, by kernel_rfl⟩
theorem rr153 : resRes Tryz.prog Tryz.f153.results.toList = some [.tmp 4] := by kernel_rfl
theorem fok153 : FOk Tryz.prog 153 ⟨r153, 13, [.tmp 4]⟩ := by
  obtain ⟨c, h1, h2⟩ := res153
  exact ⟨by kernel_rfl, _, c, Tryz.func153, h1, Tryz.ntmps153, ⟨_, h2⟩, rr153⟩
def r155l0 : RCode :=
  (.seq (.region [
    ⟨(some 6), none, .act, .nextMap (.tmp 5)⟩,
    ⟨(some 7), none, .act, .extract (.tmp 6) 0⟩])
  (.seq (.cond (.tmp 7)
   .skip
   (.exit 0))
  (.block 1
   (.seq (.region [
     ⟨(some 8), none, .act, .entryMap (.tmp 5)⟩,
     ⟨(some 9), none, .act, .extract (.tmp 8) 0⟩,
     ⟨(some 3), none, .act, .mv (.tmp 9)⟩])
   (.seq (.region [
     ⟨(some 10), none, .act, .mv (.tmp 0)⟩,
     ⟨(some 11), none, .act, .mv (.tmp 3)⟩,
     ⟨(some 12), none, .act, .callv (.tmp 10) [(.tmp 11)]⟩,
     ⟨(some 13), none, .act, .un .not (.tmp 12)⟩])
   (.cond (.tmp 13)
    .ret
    .skip))))))
def r155 : RCode :=
  (.seq (.region [
    ⟨(some 4), none, .act, .load false 1 (.tmp 1)⟩,
    ⟨(some 5), none, .act, .rangeMap (.tmp 4)⟩])
  (.block 0
   (.loop r155l0)))
theorem res155 : ∃ c, Tryz.f155.body = some c ∧ resCode Tryz.prog 14 c = some r155 := ⟨_, rfl, by kernel_rfl⟩
theorem rr155 : resRes Tryz.prog Tryz.f155.results.toList = some [] := by kernel_rfl
theorem fok155 : FOk Tryz.prog 155 ⟨r155, 14, []⟩ := by
  obtain ⟨c, h1, h2⟩ := res155
  exact ⟨by kernel_rfl, _, c, Tryz.func155, h1, Tryz.ntmps155, ⟨_, h2⟩, rr155⟩
def r119 : RCode :=
  (.seq (.region [
    ⟨(some 3), none, .act, .mv (.tmp 0)⟩,
    ⟨(some 4), none, .act, .len (.tmp 3)⟩,
    ⟨(some 2), none, .act, .mv (.tmp 4)⟩])
  (.region [
    ⟨(some 5), none, .act, .mv (.tmp 0)⟩,
    ⟨(some 6), none, .act, .mv (.tmp 2)⟩,
    ⟨(some 7), none, .act, .mv (.tmp 2)⟩,
    ⟨(some 8), none, .act, .convInt .u64 (.tmp 7)⟩,
    ⟨(some 9), none, .act, .call 113 [(.tmp 8)]⟩,
    ⟨(some 10), none, .act, .call 154 [(.tmp 5), (.const (.int .i64 0)), (.tmp 6), (.tmp 9)]⟩]))
theorem res119 : ∃ c, Tryz.f119.body = some c ∧ resCode Tryz.prog 11 c = some r119 := ⟨_, rfl, by kernel_rfl⟩
theorem rr119 : resRes Tryz.prog Tryz.f119.results.toList = some [] := by kernel_rfl
theorem fok119 : FOk Tryz.prog 119 ⟨r119, 11, []⟩ := by
  obtain ⟨c, h1, h2⟩ := res119
  exact ⟨by kernel_rfl, _, c, Tryz.func119, h1, Tryz.ntmps119, ⟨_, h2⟩, rr119⟩
def r154l0 : RCode :=
  (.block 1
   (.seq (.region [
     ⟨(some 19), none, .act, .mv (.tmp 2)⟩,
     ⟨(some 20), none, .act, .mv (.tmp 1)⟩,
     ⟨(some 21), none, .act, .bin .sub (.tmp 19) (.tmp 20)⟩,
     ⟨(some 10), none, .act, .mv (.tmp 21)⟩])
   (.seq (.seq (.region [
     ⟨(some 22), none, .act, .mv (.tmp 10)⟩,
     ⟨(some 23), none, .act, .bin .leq (.tmp 22) (.const (.int .i64 12))⟩])
   (.cond (.tmp 23)
    (.seq (.region [
      ⟨(some 24), none, .act, .mv (.tmp 0)⟩,
      ⟨(some 25), none, .act, .mv (.tmp 1)⟩,
      ⟨(some 26), none, .act, .mv (.tmp 2)⟩,
      ⟨(some 27), none, .act, .call 181 [(.tmp 24), (.tmp 25), (.tmp 26)]⟩])
    .ret)
    .skip))
   (.seq (.seq (.region [
     ⟨(some 28), none, .act, .mv (.tmp 3)⟩,
     ⟨(some 29), none, .act, .eq false .int (.tmp 28) (.const (.int .i64 0))⟩])
   (.cond (.tmp 29)
    (.seq (.region [
      ⟨(some 30), none, .act, .mv (.tmp 0)⟩,
      ⟨(some 31), none, .act, .mv (.tmp 1)⟩,
      ⟨(some 32), none, .act, .mv (.tmp 2)⟩,
      ⟨(some 33), none, .act, .call 182 [(.tmp 30), (.tmp 31), (.tmp 32)]⟩])
    .ret)
    .skip))
   (.seq (.seq (.region [
     ⟨(some 34), none, .act, .mv (.tmp 8)⟩,
     ⟨(some 35), none, .act, .un .not (.tmp 34)⟩])
   (.cond (.tmp 35)
    (.seq (.region [
      ⟨(some 36), none, .act, .mv (.tmp 0)⟩,
      ⟨(some 37), none, .act, .mv (.tmp 1)⟩,
      ⟨(some 38), none, .act, .mv (.tmp 2)⟩,
      ⟨(some 39), none, .act, .call 183 [(.tmp 36), (.tmp 37), (.tmp 38)]⟩])
    (.region [
      ⟨(some 40), none, .act, .mv (.tmp 3)⟩,
      ⟨(some 41), none, .act, .bin .sub (.tmp 40) (.const (.int .i64 1))⟩,
      ⟨(some 3), none, .act, .mv (.tmp 41)⟩]))
    .skip))
   (.seq (.region [
     ⟨(some 43), none, .act, .mv (.tmp 0)⟩,
     ⟨(some 44), none, .act, .mv (.tmp 1)⟩,
     ⟨(some 45), none, .act, .mv (.tmp 2)⟩,
     ⟨(some 46), none, .act, .call 184 [(.tmp 43), (.tmp 44), (.tmp 45)]⟩,
     ⟨(some 42), none, .act, .mv (.tmp 46)⟩,
     ⟨(some 47), none, .act, .extract (.tmp 42) 0⟩,
     ⟨(some 48), none, .act, .extract (.tmp 42) 1⟩,
     ⟨(some 11), none, .act, .mv (.tmp 47)⟩,
     ⟨(some 12), none, .act, .mv (.tmp 48)⟩])
   (.seq (.seq (.region [
     ⟨(some 49), none, .act, .mv (.tmp 12)⟩,
     ⟨(some 50), none, .act, .eq false .int (.tmp 49) (.const (.int .i64 2))⟩])
   (.cond (.tmp 50)
    (.seq (.region [
      ⟨(some 51), none, .act, .mv (.tmp 0)⟩,
      ⟨(some 52), none, .act, .mv (.tmp 1)⟩,
      ⟨(some 53), none, .act, .mv (.tmp 2)⟩,
      ⟨(some 54), none, .act, .call 185 [(.tmp 51), (.tmp 52), (.tmp 53)]⟩])
    (.seq (.region [
      ⟨(some 55), none, .act, .mv (.tmp 2)⟩,
      ⟨(some 56), none, .act, .bin .sub (.tmp 55) (.const (.int .i64 1))⟩,
      ⟨(some 57), none, .act, .mv (.tmp 11)⟩,
      ⟨(some 58), none, .act, .mv (.tmp 1)⟩,
      ⟨(some 59), none, .act, .bin .sub (.tmp 57) (.tmp 58)⟩,
      ⟨(some 60), none, .act, .bin .sub (.tmp 56) (.tmp 59)⟩,
      ⟨(some 11), none, .act, .mv (.tmp 60)⟩])
    (.region [
      ⟨(some 12), none, .act, .mv (.const (.int .i64 1))⟩])))
    .skip))
   (.seq (.seq (.region [
     ⟨(some 61), none, .act, .mv (.tmp 8)⟩,
     ⟨(some 62), none, .act, .mv (.tmp 61)⟩,
     ⟨(some 63), (some (62, true)), .act, .mv (.tmp 9)⟩,
     ⟨(some 64), none, .act, .pick (.tmp 62) (.tmp 63) (.const (.bool false))⟩,
     ⟨(some 65), none, .act, .mv (.tmp 64)⟩,
     ⟨(some 66), (some (65, true)), .act, .mv (.tmp 12)⟩,
     ⟨(some 67), (some (65, true)), .act, .eq false .int (.tmp 66) (.const (.int .i64 1))⟩,
     ⟨(some 68), none, .act, .pick (.tmp 65) (.tmp 67) (.const (.bool false))⟩])
   (.cond (.tmp 68)
    (.seq (.region [
      ⟨(some 69), none, .act, .mv (.tmp 0)⟩,
      ⟨(some 70), none, .act, .mv (.tmp 1)⟩,
      ⟨(some 71), none, .act, .mv (.tmp 2)⟩,
      ⟨(some 72), none, .act, .call 186 [(.tmp 69), (.tmp 70), (.tmp 71)]⟩])
    (.cond (.tmp 72)
     .ret
     .skip))
    .skip))
   (.seq (.seq (.region [
     ⟨(some 73), none, .pure, .mv (.tmp 1)⟩,
     ⟨(some 74), none, .pure, .bin .gtr (.tmp 73) (.const (.int .i64 0))⟩,
     ⟨(some 75), none, .pure, .mv (.tmp 74)⟩,
     ⟨(some 76), (some (75, true)), .pure, .mv (.tmp 0)⟩,
     ⟨(some 77), (some (75, true)), .pure, .mv (.tmp 1)⟩,
     ⟨(some 78), (some (75, true)), .pure, .bin .sub (.tmp 77) (.const (.int .i64 1))⟩,
     ⟨(some 79), (some (75, true)), .pure, .indexAddr 1 (.tmp 76) (.tmp 78)⟩,
     ⟨(some 80), (some (75, true)), .read, .load false 1 (.tmp 79)⟩,
     ⟨(some 81), (some (75, true)), .pure, .mv (.tmp 0)⟩,
     ⟨(some 82), (some (75, true)), .pure, .mv (.tmp 11)⟩,
     ⟨(some 83), (some (75, true)), .pure, .indexAddr 1 (.tmp 81) (.tmp 82)⟩,
     ⟨(some 84), (some (75, true)), .read, .load false 1 (.tmp 83)⟩,
     ⟨(some 85), (some (75, true)), .act, .call 187 [(.tmp 80), (.tmp 84)]⟩,
     ⟨(some 86), (some (75, true)), .pure, .un .not (.tmp 85)⟩,
     ⟨(some 87), none, .pure, .pick (.tmp 75) (.tmp 86) (.const (.bool false))⟩])
   (.cond (.tmp 87)
    (.seq (.region [
      ⟨(some 88), none, .act, .mv (.tmp 0)⟩,
      ⟨(some 89), none, .act, .mv (.tmp 1)⟩,
      ⟨(some 90), none, .act, .mv (.tmp 2)⟩,
      ⟨(some 91), none, .act, .mv (.tmp 11)⟩,
      ⟨(some 92), none, .act, .call 188 [(.tmp 88), (.tmp 89), (.tmp 90), (.tmp 91)]⟩,
      ⟨(some 13), none, .act, .mv (.tmp 92)⟩])
    (.seq (.region [
      ⟨(some 93), none, .act, .mv (.tmp 13)⟩,
      ⟨(some 1), none, .act, .mv (.tmp 93)⟩])
    (.exit 1)))
    .skip))
   (.seq (.region [
     ⟨(some 95), none, .act, .mv (.tmp 0)⟩,
     ⟨(some 96), none, .act, .mv (.tmp 1)⟩,
     ⟨(some 97), none, .act, .mv (.tmp 2)⟩,
     ⟨(some 98), none, .act, .mv (.tmp 11)⟩,
     ⟨(some 99), none, .act, .call 189 [(.tmp 95), (.tmp 96), (.tmp 97), (.tmp 98)]⟩,
     ⟨(some 94), none, .act, .mv (.tmp 99)⟩,
     ⟨(some 100), none, .act, .extract (.tmp 94) 0⟩,
     ⟨(some 101), none, .act, .extract (.tmp 94) 1⟩,
     ⟨(some 14), none, .act, .mv (.tmp 100)⟩,
     ⟨(some 15), none, .act, .mv (.tmp 101)⟩])
   (.seq (.region [
     ⟨(some 102), none, .act, .mv (.tmp 15)⟩,
     ⟨(some 9), none, .act, .mv (.tmp 102)⟩])
   (.seq (.region [
     ⟨(some 103), none, .act, .mv (.tmp 14)⟩,
     ⟨(some 104), none, .act, .mv (.tmp 1)⟩,
     ⟨(some 105), none, .act, .bin .sub (.tmp 103) (.tmp 104)⟩,
     ⟨(some 106), none, .act, .mv (.tmp 2)⟩,
     ⟨(some 107), none, .act, .mv (.tmp 14)⟩,
     ⟨(some 108), none, .act, .bin .sub (.tmp 106) (.tmp 107)⟩,
     ⟨(some 16), none, .act, .mv (.tmp 105)⟩,
     ⟨(some 17), none, .act, .mv (.tmp 108)⟩])
   (.seq (.region [
     ⟨(some 109), none, .act, .mv (.tmp 10)⟩,
     ⟨(some 110), none, .act, .bin .quo (.tmp 109) (.const (.int .i64 8))⟩,
     ⟨(some 18), none, .act, .mv (.tmp 110)⟩])
   (.seq (.region [
     ⟨(some 111), none, .act, .mv (.tmp 16)⟩,
     ⟨(some 112), none, .act, .mv (.tmp 17)⟩,
     ⟨(some 113), none, .act, .bin .lss (.tmp 111) (.tmp 112)⟩])
   (.cond (.tmp 113)
    (.seq (.region [
      ⟨(some 114), none, .act, .mv (.tmp 16)⟩,
      ⟨(some 115), none, .act, .mv (.tmp 18)⟩,
      ⟨(some 116), none, .act, .bin .geq (.tmp 114) (.tmp 115)⟩,
      ⟨(some 8), none, .act, .mv (.tmp 116)⟩])
    (.seq (.region [
      ⟨(some 117), none, .act, .mv (.tmp 0)⟩,
      ⟨(some 118), none, .act, .mv (.tmp 1)⟩,
      ⟨(some 119), none, .act, .mv (.tmp 14)⟩,
      ⟨(some 120), none, .act, .mv (.tmp 3)⟩,
      ⟨(some 121), none, .act, .call 154 [(.tmp 117), (.tmp 118), (.tmp 119), (.tmp 120)]⟩])
    (.region [
      ⟨(some 122), none, .act, .mv (.tmp 14)⟩,
      ⟨(some 123), none, .act, .bin .add (.tmp 122) (.const (.int .i64 1))⟩,
      ⟨(some 1), none, .act, .mv (.tmp 123)⟩])))
    (.seq (.region [
      ⟨(some 124), none, .act, .mv (.tmp 17)⟩,
      ⟨(some 125), none, .act, .mv (.tmp 18)⟩,
      ⟨(some 126), none, .act, .bin .geq (.tmp 124) (.tmp 125)⟩,
      ⟨(some 8), none, .act, .mv (.tmp 126)⟩])
    (.seq (.region [
      ⟨(some 127), none, .act, .mv (.tmp 0)⟩,
      ⟨(some 128), none, .act, .mv (.tmp 14)⟩,
      ⟨(some 129), none, .act, .bin .add (.tmp 128) (.const (.int .i64 1))⟩,
      ⟨(some 130), none, .act, .mv (.tmp 2)⟩,
      ⟨(some 131), none, .act, .mv (.tmp 3)⟩,
      ⟨(some 132), none, .act, .call 154 [(.tmp 127), (.tmp 129), (.tmp 130), (.tmp 131)]⟩])
    (.region [
      ⟨(some 133), none, .act, .mv (.tmp 14)⟩,
      ⟨(some 2), none, .act, .mv (.tmp 133)⟩]))))))))))))))))))
def r154 : RCode :=
  (.seq (.region [
    ⟨(some 8), none, .act, .mv (.const (.bool true))⟩])
  (.seq (.region [
    ⟨(some 9), none, .act, .mv (.const (.bool true))⟩])
  (.block 0
   (.loop r154l0))))
theorem res154 : ∃ c, Tryz.f154.body = some c ∧ resCode Tryz.prog 134 c = some r154 := ⟨_, rfl, by kernel_rfl⟩
theorem rr154 : resRes Tryz.prog Tryz.f154.results.toList = some [] := by kernel_rfl
theorem fok154 : FOk Tryz.prog 154 ⟨r154, 134, []⟩ := by
  obtain ⟨c, h1, h2⟩ := res154
  exact ⟨by kernel_rfl, _, c, Tryz.func154, h1, Tryz.ntmps154, ⟨_, h2⟩, rr154⟩
def r181l1 : RCode :=
  (.seq (.seq (.region [
    ⟨(some 16), none, .pure, .mv (.tmp 7)⟩,
    ⟨(some 17), none, .pure, .mv (.tmp 1)⟩,
    ⟨(some 18), none, .pure, .bin .gtr (.tmp 16) (.tmp 17)⟩,
    ⟨(some 19), none, .pure, .mv (.tmp 18)⟩,
    ⟨(some 20), (some (19, true)), .pure, .mv (.tmp 0)⟩,
    ⟨(some 21), (some (19, true)), .pure, .mv (.tmp 7)⟩,
    ⟨(some 22), (some (19, true)), .pure, .indexAddr 1 (.tmp 20) (.tmp 21)⟩,
    ⟨(some 23), (some (19, true)), .read, .load false 1 (.tmp 22)⟩,
    ⟨(some 24), (some (19, true)), .pure, .mv (.tmp 0)⟩,
    ⟨(some 25), (some (19, true)), .pure, .mv (.tmp 7)⟩,
    ⟨(some 26), (some (19, true)), .pure, .bin .sub (.tmp 25) (.const (.int .i64 1))⟩,
    ⟨(some 27), (some (19, true)), .pure, .indexAddr 1 (.tmp 24) (.tmp 26)⟩,
    ⟨(some 28), (some (19, true)), .read, .load false 1 (.tmp 27)⟩,
    ⟨(some 29), (some (19, true)), .act, .call 187 [(.tmp 23), (.tmp 28)]⟩,
    ⟨(some 30), none, .pure, .pick (.tmp 19) (.tmp 29) (.const (.bool false))⟩])
  (.cond (.tmp 30)
   .skip
   (.exit 2)))
  (.seq (.block 3
   (.region [
     ⟨(some 33), none, .pure, .mv (.tmp 0)⟩,
     ⟨(some 34), none, .pure, .mv (.tmp 7)⟩,
     ⟨(some 35), none, .pure, .mv (.tmp 0)⟩,
     ⟨(some 36), none, .pure, .mv (.tmp 7)⟩,
     ⟨(some 37), none, .pure, .bin .sub (.tmp 36) (.const (.int .i64 1))⟩,
     ⟨(some 38), none, .pure, .mv (.tmp 0)⟩,
     ⟨(some 39), none, .pure, .mv (.tmp 7)⟩,
     ⟨(some 40), none, .pure, .bin .sub (.tmp 39) (.const (.int .i64 1))⟩,
     ⟨(some 41), none, .pure, .indexAddr 1 (.tmp 38) (.tmp 40)⟩,
     ⟨(some 42), none, .read, .load false 1 (.tmp 41)⟩,
     ⟨(some 43), none, .pure, .mv (.tmp 0)⟩,
     ⟨(some 44), none, .pure, .mv (.tmp 7)⟩,
     ⟨(some 45), none, .pure, .indexAddr 1 (.tmp 43) (.tmp 44)⟩,
     ⟨(some 46), none, .read, .load false 1 (.tmp 45)⟩,
     ⟨(some 47), none, .pure, .indexAddr 1 (.tmp 33) (.tmp 34)⟩,
     ⟨none, none, .act, .store 1 (.tmp 47) (.tmp 42)⟩,
     ⟨(some 48), none, .pure, .indexAddr 1 (.tmp 35) (.tmp 37)⟩,
     ⟨none, none, .act, .store 1 (.tmp 48) (.tmp 46)⟩]))
  (.region [
    ⟨(some 31), none, .act, .mv (.tmp 7)⟩,
    ⟨(some 32), none, .act, .bin .sub (.tmp 31) (.const (.int .i64 1))⟩,
    ⟨(some 7), none, .act, .mv (.tmp 32)⟩])))
def r181l0 : RCode :=
  (.seq (.seq (.region [
    ⟨(some 10), none, .act, .mv (.tmp 6)⟩,
    ⟨(some 11), none, .act, .mv (.tmp 2)⟩,
    ⟨(some 12), none, .act, .bin .lss (.tmp 10) (.tmp 11)⟩])
  (.cond (.tmp 12)
   .skip
   (.exit 0)))
  (.seq (.block 1
   (.seq (.region [
     ⟨(some 15), none, .act, .mv (.tmp 6)⟩,
     ⟨(some 7), none, .act, .mv (.tmp 15)⟩])
   (.block 2
    (.loop r181l1))))
  (.region [
    ⟨(some 13), none, .act, .mv (.tmp 6)⟩,
    ⟨(some 14), none, .act, .bin .add (.tmp 13) (.const (.int .i64 1))⟩,
    ⟨(some 6), none, .act, .mv (.tmp 14)⟩])))
def r181 : RCode :=
  (.seq (.region [
    ⟨(some 8), none, .act, .mv (.tmp 1)⟩,
    ⟨(some 9), none, .act, .bin .add (.tmp 8) (.const (.int .i64 1))⟩,
    ⟨(some 6), none, .act, .mv (.tmp 9)⟩])
  (.block 0
   (.loop r181l0)))
theorem res181 : ∃ c, Tryz.f181.body = some c ∧ resCode Tryz.prog 49 c = some r181 := ⟨_, rfl, by kernel_rfl⟩
theorem rr181 : resRes Tryz.prog Tryz.f181.results.toList = some [] := by kernel_rfl
theorem fok181 : FOk Tryz.prog 181 ⟨r181, 49, []⟩ := by
  obtain ⟨c, h1, h2⟩ := res181
  exact ⟨by kernel_rfl, _, c, Tryz.func181, h1, Tryz.ntmps181, ⟨_, h2⟩, rr181⟩
def r98 : RCode :=
  (.seq (.region [
    ⟨(some 3), none, .act, .box (.tmp 1)⟩,
    ⟨(some 4), none, .act, .alloc [(.int .i64 0), (.int .u64 0), (.int .u64 0), (.bool false), (.slice none 0 0), (.slice none 0 0), (.slice none 0 0)]⟩])
  (.seq (.region [
    ⟨(some 6), none, .act, .mv (.tmp 0)⟩,
    ⟨(some 7), none, .act, .fieldAddr 3 (.tmp 3)⟩,
    ⟨(some 8), none, .act, .load false 1 (.tmp 7)⟩,
    ⟨(some 9), none, .act, .call 122 [(.tmp 6), (.tmp 8)]⟩,
    ⟨(some 5), none, .act, .mv (.tmp 9)⟩])
  (.seq (.block 0
   (.seq (.region [
     ⟨(some 14), none, .act, .mv (.tmp 5)⟩,
     ⟨(some 15), none, .act, .eq false .ptr (.tmp 14) (.const (.pointer none))⟩,
     ⟨(some 13), none, .act, .mv (.tmp 15)⟩])
   (.cond (.tmp 13)
    (.seq (.region [
      ⟨(some 16), none, .act, .call 104 [(.const (.int .i64 150))]⟩,
      ⟨none, none, .act, .store 7 (.tmp 4) (.tmp 16)⟩])
    .ret)
    (.seq (.region [
      ⟨(some 18), none, .act, .mv (.tmp 5)⟩,
      ⟨(some 19), none, .act, .nilCheck (.tmp 18)⟩,
      ⟨(some 20), none, .act, .fieldAddr 1 (.tmp 19)⟩,
      ⟨(some 21), none, .act, .load false 1 (.tmp 20)⟩,
      ⟨(some 22), none, .act, .eq true .int (.tmp 21) (.const (.int .i64 0))⟩,
      ⟨(some 17), none, .act, .mv (.tmp 22)⟩])
    (.cond (.tmp 17)
     .skip
     (.seq (.region [
       ⟨(some 24), none, .act, .fieldAddr 5 (.tmp 3)⟩,
       ⟨(some 25), none, .act, .load false 1 (.tmp 24)⟩,
       ⟨(some 23), none, .act, .mv (.tmp 25)⟩])
     (.cond (.tmp 23)
      (.seq (.region [
        ⟨(some 26), none, .act, .mv (.tmp 0)⟩,
        ⟨(some 27), none, .act, .nilCheck (.tmp 26)⟩,
        ⟨(some 28), none, .act, .fieldAddr 0 (.tmp 27)⟩,
        ⟨(some 29), none, .act, .load false 1 (.tmp 28)⟩,
        ⟨(some 30), none, .act, .bin .add (.tmp 29) (.const (.int .u64 1))⟩,
        ⟨(some 31), none, .act, .nilCheck (.tmp 26)⟩,
        ⟨(some 32), none, .act, .fieldAddr 0 (.tmp 31)⟩,
        ⟨none, none, .act, .store 1 (.tmp 32) (.tmp 30)⟩])
      (.region [
        ⟨(some 33), none, .act, .mv (.tmp 5)⟩,
        ⟨(some 34), none, .act, .mv (.tmp 5)⟩,
        ⟨(some 35), none, .act, .mv (.tmp 0)⟩,
        ⟨(some 36), none, .act, .nilCheck (.tmp 35)⟩,
        ⟨(some 37), none, .act, .fieldAddr 0 (.tmp 36)⟩,
        ⟨(some 38), none, .act, .load false 1 (.tmp 37)⟩,
        ⟨(some 39), none, .act, .nilCheck (.tmp 33)⟩,
        ⟨(some 40), none, .act, .fieldAddr 1 (.tmp 39)⟩,
        ⟨none, none, .act, .store 1 (.tmp 40) (.const (.int .i64 1))⟩,
        ⟨(some 41), none, .act, .nilCheck (.tmp 34)⟩,
        ⟨(some 42), none, .act, .fieldAddr 2 (.tmp 41)⟩,
        ⟨none, none, .act, .store 1 (.tmp 42) (.tmp 38)⟩]))
      (.region [
        ⟨(some 10), none, .act, .mv (.tmp 5)⟩,
        ⟨(some 11), none, .act, .nilCheck (.tmp 10)⟩,
        ⟨(some 12), none, .act, .fieldAddr 1 (.tmp 11)⟩,
        ⟨none, none, .act, .store 1 (.tmp 12) (.const (.int .i64 2))⟩]))))))))
  (.seq (.region [
    ⟨(some 43), none, .act, .mv (.tmp 5)⟩,
    ⟨(some 44), none, .act, .nilCheck (.tmp 43)⟩,
    ⟨(some 45), none, .act, .load true 3 (.tmp 44)⟩,
    ⟨(some 46), none, .act, .buildSl 3 [(.int .u64 0), (.int .i64 0), (.int .u64 0)] 1 [(0, (.tmp 45))]⟩,
    ⟨(some 47), none, .act, .build [(.int .i64 0), (.int .u64 0), (.int .u64 0), (.bool false), (.slice none 0 0), (.slice none 0 0), (.slice none 0 0)] [(4, 1, (.tmp 46))]⟩,
    ⟨none, none, .act, .store 7 (.tmp 4) (.tmp 47)⟩])
  .ret))))
theorem res98 : ∃ c, Tryz.f98.body = some c ∧ resCode Tryz.prog 48 c = some r98 := ⟨_, rfl, by kernel_rfl⟩
theorem rr98 : resRes Tryz.prog Tryz.f98.results.toList = some [.cell 4 true 7] := by kernel_rfl
theorem fok98 : FOk Tryz.prog 98 ⟨r98, 48, [.cell 4 true 7]⟩ := by
  obtain ⟨c, h1, h2⟩ := res98
  exact ⟨by kernel_rfl, _, c, Tryz.func98, h1, Tryz.ntmps98, ⟨_, h2⟩, rr98⟩
def r122 : RCode :=
  (.seq (.region [
    ⟨(some 4), none, .act, .mv (.const (.pointer none))⟩])
  (.seq (.seq (.region [
    ⟨(some 5), none, .act, .mv (.tmp 1)⟩,
    ⟨(some 6), none, .act, .eq false .int (.tmp 5) (.const (.int .u64 0))⟩,
    ⟨(some 7), none, .act, .mv (.tmp 6)⟩,
    ⟨(some 8), (some (7, false)), .act, .mv (.tmp 1)⟩,
    ⟨(some 9), (some (7, false)), .act, .mv (.tmp 0)⟩,
    ⟨(some 10), (some (7, false)), .act, .nilCheck (.tmp 9)⟩,
    ⟨(some 11), (some (7, false)), .act, .fieldAddr 1 (.tmp 10)⟩,
    ⟨(some 12), (some (7, false)), .act, .load false 1 (.tmp 11)⟩,
    ⟨(some 13), (some (7, false)), .act, .len (.tmp 12)⟩,
    ⟨(some 14), (some (7, false)), .act, .convInt .u64 (.tmp 13)⟩,
    ⟨(some 15), (some (7, false)), .act, .bin .gtr (.tmp 8) (.tmp 14)⟩,
    ⟨(some 16), none, .act, .pick (.tmp 7) (.const (.bool true)) (.tmp 15)⟩])
  (.cond (.tmp 16)
   (.seq (.region [
     ⟨(some 4), none, .act, .mv (.const (.pointer none))⟩])
   .ret)
   .skip))
  (.seq (.region [
    ⟨(some 17), none, .act, .mv (.tmp 0)⟩,
    ⟨(some 18), none, .act, .nilCheck (.tmp 17)⟩,
    ⟨(some 19), none, .act, .fieldAddr 1 (.tmp 18)⟩,
    ⟨(some 20), none, .act, .load false 1 (.tmp 19)⟩,
    ⟨(some 21), none, .act, .mv (.tmp 1)⟩,
    ⟨(some 22), none, .act, .bin .sub (.tmp 21) (.const (.int .u64 1))⟩,
    ⟨(some 23), none, .act, .indexAddr 3 (.tmp 20) (.tmp 22)⟩,
    ⟨(some 4), none, .act, .mv (.tmp 23)⟩])
  .ret)))
theorem res122 : ∃ c, Tryz.f122.body = some c ∧ resCode Tryz.prog 24 c = some r122 := ⟨_, rfl, by kernel_rfl⟩
theorem rr122 : resRes Tryz.prog Tryz.f122.results.toList = some [.tmp 4] := by kernel_rfl
theorem fok122 : FOk Tryz.prog 122 ⟨r122, 24, [.tmp 4]⟩ := by
  obtain ⟨c, h1, h2⟩ := res122
  exact ⟨by kernel_rfl, _, c, Tryz.func122, h1, Tryz.ntmps122, ⟨_, h2⟩, rr122⟩
def r46 : RCode :=
  (.seq (.region [
    ⟨(some 5), none, .act, .box (.tmp 2)⟩])
  (.seq (.region [
    ⟨(some 6), none, .act, .alloc [(.int .u64 0), (.int .i64 0), (.int .u64 0)]⟩])
  (.seq (.seq (.region [
    ⟨(some 7), none, .act, .fieldAddr 4 (.tmp 5)⟩,
    ⟨(some 8), none, .act, .load false 1 (.tmp 7)⟩,
    ⟨(some 9), none, .act, .len (.tmp 8)⟩,
    ⟨(some 10), none, .act, .bin .gtr (.tmp 9) (.const (.int .i64 0))⟩])
  (.cond (.tmp 10)
   (.region [
     ⟨(some 11), none, .act, .fieldAddr 4 (.tmp 5)⟩,
     ⟨(some 12), none, .act, .load false 1 (.tmp 11)⟩,
     ⟨(some 13), none, .act, .indexAddr 3 (.tmp 12) (.const (.int .i64 0))⟩,
     ⟨(some 14), none, .act, .load true 3 (.tmp 13)⟩,
     ⟨none, none, .act, .store 3 (.tmp 6) (.tmp 14)⟩])
   .skip))
  (.seq (.regionT (.step ⟨(some 15), none, .pure, .mv (.tmp 1)⟩ (.step ⟨(some 16), none, .pure, .mv (.tmp 1)⟩ (.step ⟨(some 17), none, .pure, .mv (.tmp 1)⟩ (.step ⟨(some 18), none, .pure, .fieldAddr 1 (.tmp 6)⟩ (.step ⟨(some 19), none, .read, .load false 1 (.tmp 18)⟩ (.step ⟨(some 20), none, .pure, .eq false .int (.tmp 19) (.const (.int .i64 1))⟩ (.step ⟨(some 21), none, .pure, .fieldAddr 2 (.tmp 6)⟩ (.step ⟨(some 23), none, .pure, .nilCheck (.tmp 15)⟩ (.step ⟨(some 24), none, .pure, .fieldAddr 57 (.tmp 23)⟩ (.alt ⟨(some 22), none, .read, .load false 1 (.tmp 21)⟩ (.alt ⟨none, none, .act, .store 1 (.tmp 24) (.tmp 20)⟩ (.step ⟨(some 25), none, .pure, .nilCheck (.tmp 16)⟩ (.step ⟨(some 26), none, .pure, .fieldAddr 58 (.tmp 25)⟩ (.alt ⟨none, none, .act, .store 1 (.tmp 26) (.tmp 22)⟩ (.step ⟨(some 27), none, .pure, .nilCheck (.tmp 17)⟩ (.step ⟨(some 28), none, .pure, .fieldAddr 56 (.tmp 27)⟩ (.alt ⟨none, none, .act, .store 1 (.tmp 28) (.const (.int .i64 0))⟩ .done
    .stop)))
    .stop)))
    .stop)
    (.alt ⟨none, none, .act, .store 1 (.tmp 24) (.tmp 20)⟩ (.step ⟨(some 22), none, .read, .load false 1 (.tmp 21)⟩ (.step ⟨(some 25), none, .pure, .nilCheck (.tmp 16)⟩ (.step ⟨(some 26), none, .pure, .fieldAddr 58 (.tmp 25)⟩ (.alt ⟨none, none, .act, .store 1 (.tmp 26) (.tmp 22)⟩ (.step ⟨(some 27), none, .pure, .nilCheck (.tmp 17)⟩ (.step ⟨(some 28), none, .pure, .fieldAddr 56 (.tmp 27)⟩ (.alt ⟨none, none, .act, .store 1 (.tmp 28) (.const (.int .i64 0))⟩ .done
    .stop)))
    .stop))))
    .stop))))))))))))
  (.seq (.seq (.region [
    ⟨(some 29), none, .act, .mv (.tmp 1)⟩,
    ⟨(some 30), none, .act, .nilCheck (.tmp 29)⟩,
    ⟨(some 31), none, .act, .fieldAddr 57 (.tmp 30)⟩,
    ⟨(some 32), none, .act, .load false 1 (.tmp 31)⟩])
  (.cond (.tmp 32)
   (.seq (.region [
     ⟨(some 33), none, .pure, .mv (.tmp 0)⟩,
     ⟨(some 34), none, .pure, .mv (.tmp 1)⟩,
     ⟨(some 35), none, .pure, .fieldAddr 2 (.tmp 6)⟩,
     ⟨(some 36), none, .read, .load false 1 (.tmp 35)⟩,
     ⟨(some 37), none, .pure, .mv (.tmp 1)⟩,
     ⟨(some 38), none, .read, .call 75 [(.tmp 37)]⟩,
     ⟨(some 39), none, .pure, .build [(.int .i64 0), (.int .u64 0), (.int .i64 0), (.int .u64 0), (.slice none 0 0), (.slice none 0 0), (.slice none 0 0), (.slice none 0 0)] [(0, 1, (.const (.int .i64 3))), (3, 1, (.tmp 36)), (7, 1, (.tmp 38))]⟩,
     ⟨(some 40), none, .act, .call 39 [(.tmp 33), (.tmp 34), (.tmp 39)]⟩])
   (.region [
     ⟨(some 41), none, .act, .mv (.tmp 1)⟩,
     ⟨(some 42), none, .act, .fieldAddr 2 (.tmp 6)⟩,
     ⟨(some 43), none, .act, .load false 1 (.tmp 42)⟩,
     ⟨(some 44), none, .act, .build [(.int .i64 0), (.slice none 0 0), (.slice none 0 0), (.int .u64 0)] [(3, 1, (.tmp 43))]⟩,
     ⟨(some 45), none, .act, .nilCheck (.tmp 41)⟩,
     ⟨(some 46), none, .act, .fieldAddr 20 (.tmp 45)⟩,
     ⟨none, none, .act, .store 4 (.tmp 46) (.tmp 44)⟩]))
   (.region [
     ⟨(some 47), none, .act, .mv (.tmp 0)⟩,
     ⟨(some 48), none, .act, .mv (.tmp 1)⟩,
     ⟨(some 49), none, .act, .build [(.int .i64 0), (.int .u64 0), (.int .i64 0), (.int .u64 0), (.slice none 0 0), (.slice none 0 0), (.slice none 0 0), (.slice none 0 0)] [(0, 1, (.const (.int .i64 4)))]⟩,
     ⟨(some 50), none, .act, .call 39 [(.tmp 47), (.tmp 48), (.tmp 49)]⟩])))
  (.seq (.region [
    ⟨(some 51), none, .act, .mv (.tmp 1)⟩,
    ⟨(some 52), none, .act, .nilCheck (.tmp 51)⟩,
    ⟨(some 53), none, .act, .fieldAddr 19 (.tmp 52)⟩,
    ⟨none, none, .act, .store 1 (.tmp 53) (.const (.int .i64 11))⟩])
  (.seq (.region [
    ⟨(some 54), none, .act, .mv (.tmp 1)⟩,
    ⟨(some 55), none, .act, .nilCheck (.tmp 54)⟩,
    ⟨(some 56), none, .act, .fieldAddr 55 (.tmp 55)⟩,
    ⟨(some 57), none, .act, .load false 1 (.tmp 56)⟩,
    ⟨(some 58), none, .act, .len (.tmp 57)⟩,
    ⟨(some 59), none, .act, .eq false .int (.tmp 58) (.const (.int .i64 0))⟩])
  (.cond (.tmp 59)
   (.region [
     ⟨(some 60), none, .act, .mv (.tmp 1)⟩,
     ⟨(some 61), none, .act, .nilCheck (.tmp 60)⟩,
     ⟨(some 62), none, .act, .fieldAddr 19 (.tmp 61)⟩,
     ⟨none, none, .act, .store 1 (.tmp 62) (.const (.int .i64 12))⟩])
   .skip))))))))
theorem res46 : ∃ c, Tryz.f46.body = some c ∧ resCode Tryz.prog 63 c = some r46 := ⟨_, rfl, by kernel_rfl⟩
theorem rr46 : resRes Tryz.prog Tryz.f46.results.toList = some [] := by kernel_rfl
theorem fok46 : FOk Tryz.prog 46 ⟨r46, 63, []⟩ := by
  obtain ⟨c, h1, h2⟩ := res46
  exact ⟨by kernel_rfl, _, c, Tryz.func46, h1, Tryz.ntmps46, ⟨_, h2⟩, rr46⟩
def r75l0 : RCode :=
  (.seq (.region [
    ⟨(some 10), none, .act, .bin .lss (.tmp 9) (.tmp 8)⟩])
  (.seq (.cond (.tmp 10)
   .skip
   (.exit 0))
  (.seq (.block 1
   (.seq (.region [
     ⟨(some 11), none, .act, .indexAddr 3 (.tmp 7) (.tmp 9)⟩,
     ⟨(some 12), none, .act, .load true 3 (.tmp 11)⟩,
     ⟨(some 5), none, .act, .alloc [(.slice none 0 0), (.bool false), (.slice none 0 0)]⟩,
     ⟨none, none, .act, .store 3 (.tmp 5) (.tmp 12)⟩])
   (.region [
     ⟨(some 13), none, .act, .mv (.tmp 3)⟩,
     ⟨(some 14), none, .act, .fieldAddr 0 (.tmp 5)⟩,
     ⟨(some 15), none, .act, .load false 1 (.tmp 14)⟩,
     ⟨(some 16), none, .act, .buildSl 1 [(.slice none 0 0)] 1 [(0, (.tmp 15))]⟩,
     ⟨(some 17), none, .act, .append 1 24 [(.slice none 0 0)] (.tmp 13) (.tmp 16)⟩,
     ⟨(some 3), none, .act, .mv (.tmp 17)⟩])))
  (.region [
    ⟨(some 18), none, .act, .bin .add (.tmp 9) (.const (.int .i64 1))⟩,
    ⟨(some 9), none, .act, .mv (.tmp 18)⟩]))))
def r75 : RCode :=
  (.seq (.region [
    ⟨(some 2), none, .act, .mv (.const (.slice none 0 0))⟩])
  (.seq (.region [
    ⟨(some 3), none, .act, .mv (.const (.slice none 0 0))⟩])
  (.seq (.seq (.region [
    ⟨(some 6), none, .act, .mv (.tmp 0)⟩,
    ⟨(some 7), none, .act, .call 95 [(.tmp 6)]⟩,
    ⟨(some 8), none, .act, .len (.tmp 7)⟩,
    ⟨(some 9), none, .act, .mv (.const (.int .i64 0))⟩])
  (.block 0
   (.loop r75l0)))
  (.seq (.region [
    ⟨(some 19), none, .act, .mv (.tmp 3)⟩,
    ⟨(some 2), none, .act, .mv (.tmp 19)⟩])
  .ret))))
theorem res75 : ∃ c, Tryz.f75.body = some c ∧ resCode Tryz.prog 20 c = some r75 := ⟨_, rfl, by kernel_rfl⟩
theorem rr75 : resRes Tryz.prog Tryz.f75.results.toList = some [.tmp 2] := by kernel_rfl
theorem fok75 : FOk Tryz.prog 75 ⟨r75, 20, [.tmp 2]⟩ := by
  obtain ⟨c, h1, h2⟩ := res75
  exact ⟨by kernel_rfl, _, c, Tryz.func75, h1, Tryz.ntmps75, ⟨_, h2⟩, rr75⟩
def r101 : RCode :=
  (.seq (.region [
    ⟨(some 3), none, .act, .box (.tmp 1)⟩,
    ⟨(some 4), none, .act, .mv (.const (.int .i64 0))⟩])
  (.seq (.seq (.region [
    ⟨(some 6), none, .act, .mv (.tmp 0)⟩,
    ⟨(some 7), none, .act, .call 124 [(.tmp 6)]⟩,
    ⟨(some 8), none, .act, .un .not (.tmp 7)⟩])
  (.cond (.tmp 8)
   (.seq (.region [
     ⟨(some 4), none, .act, .mv (.const (.int .i64 0))⟩])
   .ret)
   .skip))
  (.seq (.region [
    ⟨(some 9), none, .act, .mv (.tmp 0)⟩,
    ⟨(some 10), none, .act, .nilCheck (.tmp 9)⟩,
    ⟨(some 11), none, .act, .fieldAddr 0 (.tmp 10)⟩,
    ⟨(some 12), none, .act, .load false 1 (.tmp 11)⟩,
    ⟨(some 13), none, .act, .len (.tmp 12)⟩,
    ⟨(some 5), none, .act, .mv (.tmp 13)⟩])
  (.seq (.region [
    ⟨(some 14), none, .act, .mv (.tmp 0)⟩,
    ⟨(some 15), none, .act, .mv (.tmp 0)⟩,
    ⟨(some 16), none, .act, .nilCheck (.tmp 15)⟩,
    ⟨(some 17), none, .act, .fieldAddr 0 (.tmp 16)⟩,
    ⟨(some 18), none, .act, .load false 1 (.tmp 17)⟩,
    ⟨(some 19), none, .act, .makeFunc (.func 126) [] [(.tmp 3)]⟩,
    ⟨(some 20), none, .act, .call 125 [(.tmp 18), (.tmp 19)]⟩,
    ⟨(some 21), none, .act, .nilCheck (.tmp 14)⟩,
    ⟨(some 22), none, .act, .fieldAddr 0 (.tmp 21)⟩,
    ⟨none, none, .act, .store 1 (.tmp 22) (.tmp 20)⟩])
  (.seq (.region [
    ⟨(some 23), none, .act, .mv (.tmp 0)⟩,
    ⟨(some 24), none, .act, .load false 1 (.tmp 3)⟩,
    ⟨(some 25), none, .act, .call 127 [(.tmp 23), (.tmp 24), (.func 128)]⟩])
  (.seq (.region [
    ⟨(some 26), none, .act, .mv (.tmp 5)⟩,
    ⟨(some 27), none, .act, .mv (.tmp 0)⟩,
    ⟨(some 28), none, .act, .nilCheck (.tmp 27)⟩,
    ⟨(some 29), none, .act, .fieldAddr 0 (.tmp 28)⟩,
    ⟨(some 30), none, .act, .load false 1 (.tmp 29)⟩,
    ⟨(some 31), none, .act, .len (.tmp 30)⟩,
    ⟨(some 32), none, .act, .bin .sub (.tmp 26) (.tmp 31)⟩,
    ⟨(some 4), none, .act, .mv (.tmp 32)⟩])
  .ret))))))
theorem res101 : ∃ c, Tryz.f101.body = some c ∧ resCode Tryz.prog 33 c = some r101 := ⟨_, rfl, by kernel_rfl⟩
theorem rr101 : resRes Tryz.prog Tryz.f101.results.toList = some [.tmp 4] := by kernel_rfl
theorem fok101 : FOk Tryz.prog 101 ⟨r101, 33, [.tmp 4]⟩ := by
  obtain ⟨c, h1, h2⟩ := res101
  exact ⟨by kernel_rfl, _, c, Tryz.func101, h1, Tryz.ntmps101, ⟨_, h2⟩, rr101⟩
def r124 : RCode :=
  (.seq (.region [
    ⟨(some 2), none, .act, .mv (.const (.bool false))⟩])
  (.seq (.region [
    ⟨(some 3), none, .act, .mv (.tmp 0)⟩,
    ⟨(some 4), none, .act, .eq true .ptr (.tmp 3) (.const (.pointer none))⟩,
    ⟨(some 5), none, .act, .mv (.tmp 4)⟩,
    ⟨(some 6), (some (5, true)), .act, .mv (.tmp 0)⟩,
    ⟨(some 7), (some (5, true)), .act, .nilCheck (.tmp 6)⟩,
    ⟨(some 8), (some (5, true)), .act, .fieldAddr 2 (.tmp 7)⟩,
    ⟨(some 9), (some (5, true)), .act, .load false 1 (.tmp 8)⟩,
    ⟨(some 10), none, .act, .pick (.tmp 5) (.tmp 9) (.const (.bool false))⟩,
    ⟨(some 2), none, .act, .mv (.tmp 10)⟩])
  .ret))
theorem res124 : ∃ c, Tryz.f124.body = some c ∧ resCode Tryz.prog 11 c = some r124 := ⟨_, rfl, by kernel_rfl⟩
theorem rr124 : resRes Tryz.prog Tryz.f124.results.toList = some [.tmp 2] := by kernel_rfl
theorem fok124 : FOk Tryz.prog 124 ⟨r124, 11, [.tmp 2]⟩ := by
  obtain ⟨c, h1, h2⟩ := res124
  exact ⟨by kernel_rfl, _, c, Tryz.func124, h1, Tryz.ntmps124, ⟨_, h2⟩, rr124⟩
def r125l0 : RCode :=
  (.seq (.seq (.region [
    ⟨(some 16), none, .act, .mv (.tmp 6)⟩,
    ⟨(some 17), none, .act, .mv (.tmp 0)⟩,
    ⟨(some 18), none, .act, .len (.tmp 17)⟩,
    ⟨(some 19), none, .act, .bin .lss (.tmp 16) (.tmp 18)⟩])
  (.cond (.tmp 19)
   .skip
   (.exit 0)))
  (.seq (.block 1
   (.seq (.region [
     ⟨(some 22), none, .act, .mv (.tmp 0)⟩,
     ⟨(some 23), none, .act, .mv (.tmp 6)⟩,
     ⟨(some 24), none, .act, .indexAddr 5 (.tmp 22) (.tmp 23)⟩,
     ⟨(some 25), none, .act, .load true 5 (.tmp 24)⟩,
     ⟨(some 7), none, .act, .alloc [(.int .u64 0), (.int .i64 0), (.int .i64 0), (.slice none 0 0), (.slice none 0 0)]⟩,
     ⟨none, none, .act, .store 5 (.tmp 7) (.tmp 25)⟩])
   (.seq (.region [
     ⟨(some 26), none, .act, .mv (.tmp 1)⟩,
     ⟨(some 27), none, .act, .load true 5 (.tmp 7)⟩,
     ⟨(some 28), none, .act, .callv (.tmp 26) [(.tmp 27)]⟩,
     ⟨(some 29), none, .act, .un .not (.tmp 28)⟩])
   (.cond (.tmp 29)
    (.seq (.region [
      ⟨(some 30), none, .act, .mv (.tmp 0)⟩,
      ⟨(some 31), none, .act, .mv (.tmp 5)⟩,
      ⟨(some 32), none, .act, .load true 5 (.tmp 7)⟩,
      ⟨(some 33), none, .act, .indexAddr 5 (.tmp 30) (.tmp 31)⟩,
      ⟨none, none, .act, .store 5 (.tmp 33) (.tmp 32)⟩])
    (.region [
      ⟨(some 34), none, .act, .mv (.tmp 5)⟩,
      ⟨(some 35), none, .act, .bin .add (.tmp 34) (.const (.int .i64 1))⟩,
      ⟨(some 5), none, .act, .mv (.tmp 35)⟩]))
    .skip))))
  (.region [
    ⟨(some 20), none, .act, .mv (.tmp 6)⟩,
    ⟨(some 21), none, .act, .bin .add (.tmp 20) (.const (.int .i64 1))⟩,
    ⟨(some 6), none, .act, .mv (.tmp 21)⟩])))
def r125 : RCode :=
  (.seq (.region [
    ⟨(some 4), none, .act, .mv (.const (.slice none 0 0))⟩])
  (.seq (.region [
    ⟨(some 8), none, .act, .mv (.tmp 0)⟩,
    ⟨(some 9), none, .act, .mv (.tmp 1)⟩,
    ⟨(some 10), none, .act, .call 167 [(.tmp 8), (.tmp 9)]⟩,
    ⟨(some 5), none, .act, .mv (.tmp 10)⟩])
  (.seq (.seq (.region [
    ⟨(some 11), none, .act, .mv (.tmp 5)⟩,
    ⟨(some 12), none, .act, .eq false .int (.tmp 11) (.const (.int .i64 (-1)))⟩])
  (.cond (.tmp 12)
   (.seq (.region [
     ⟨(some 13), none, .act, .mv (.tmp 0)⟩,
     ⟨(some 4), none, .act, .mv (.tmp 13)⟩])
   .ret)
   .skip))
  (.seq (.seq (.region [
    ⟨(some 14), none, .act, .mv (.tmp 5)⟩,
    ⟨(some 15), none, .act, .bin .add (.tmp 14) (.const (.int .i64 1))⟩,
    ⟨(some 6), none, .act, .mv (.tmp 15)⟩])
  (.block 0
   (.loop r125l0)))
  (.seq (.region [
    ⟨(some 36), none, .act, .mv (.tmp 0)⟩,
    ⟨(some 37), none, .act, .mv (.tmp 5)⟩,
    ⟨(some 38), none, .act, .sliceSl 5 (.tmp 36) (some (.tmp 37)) none none⟩,
    ⟨none, none, .act, .clearSl 5 [(.int .u64 0), (.int .i64 0), (.int .i64 0), (.slice none 0 0), (.slice none 0 0)] (.tmp 38)⟩])
  (.seq (.region [
    ⟨(some 39), none, .act, .mv (.tmp 0)⟩,
    ⟨(some 40), none, .act, .mv (.tmp 5)⟩,
    ⟨(some 41), none, .act, .sliceSl 5 (.tmp 39) none (some (.tmp 40)) none⟩,
    ⟨(some 4), none, .act, .mv (.tmp 41)⟩])
  .ret))))))
theorem res125 : ∃ c, Tryz.f125.body = some c ∧ resCode Tryz.prog 42 c = some r125 := ⟨_, rfl, by kernel_rfl⟩
theorem rr125 : resRes Tryz.prog Tryz.f125.results.toList = some [.tmp 4] := by kernel_rfl
theorem fok125 : FOk Tryz.prog 125 ⟨r125, 42, [.tmp 4]⟩ := by
  obtain ⟨c, h1, h2⟩ := res125
  exact ⟨by kernel_rfl, _, c, Tryz.func125, h1, Tryz.ntmps125, ⟨_, h2⟩, rr125⟩
def r167l0 : RCode :=
  (.seq (.region [
    ⟨(some 9), none, .act, .bin .lss (.tmp 8) (.tmp 7)⟩])
  (.seq (.cond (.tmp 9)
   .skip
   (.exit 0))
  (.seq (.block 1
   (.seq (.region [
     ⟨(some 10), none, .act, .mv (.tmp 8)⟩,
     ⟨(some 5), none, .act, .mv (.tmp 10)⟩])
   (.seq (.region [
     ⟨(some 11), none, .act, .mv (.tmp 1)⟩,
     ⟨(some 12), none, .act, .mv (.tmp 0)⟩,
     ⟨(some 13), none, .act, .mv (.tmp 5)⟩,
     ⟨(some 14), none, .act, .indexAddr 5 (.tmp 12) (.tmp 13)⟩,
     ⟨(some 15), none, .act, .load true 5 (.tmp 14)⟩,
     ⟨(some 16), none, .act, .callv (.tmp 11) [(.tmp 15)]⟩])
   (.cond (.tmp 16)
    (.seq (.region [
      ⟨(some 17), none, .act, .mv (.tmp 5)⟩,
      ⟨(some 4), none, .act, .mv (.tmp 17)⟩])
    .ret)
    .skip))))
  (.region [
    ⟨(some 18), none, .act, .bin .add (.tmp 8) (.const (.int .i64 1))⟩,
    ⟨(some 8), none, .act, .mv (.tmp 18)⟩]))))
def r167 : RCode :=
  (.seq (.region [
    ⟨(some 4), none, .act, .mv (.const (.int .i64 0))⟩])
  (.seq (.seq (.region [
    ⟨(some 6), none, .act, .mv (.tmp 0)⟩,
    ⟨(some 7), none, .act, .len (.tmp 6)⟩,
    ⟨(some 8), none, .act, .mv (.const (.int .i64 0))⟩])
  (.block 0
   (.loop r167l0)))
  (.seq (.region [
    ⟨(some 4), none, .act, .mv (.const (.int .i64 (-1)))⟩])
  .ret)))
theorem res167 : ∃ c, Tryz.f167.body = some c ∧ resCode Tryz.prog 19 c = some r167 := ⟨_, rfl, by kernel_rfl⟩
theorem rr167 : resRes Tryz.prog Tryz.f167.results.toList = some [.tmp 4] := by kernel_rfl
theorem fok167 : FOk Tryz.prog 167 ⟨r167, 19, [.tmp 4]⟩ := by
  obtain ⟨c, h1, h2⟩ := res167
  exact ⟨by kernel_rfl, _, c, Tryz.func167, h1, Tryz.ntmps167, ⟨_, h2⟩, rr167⟩
def r127 : RCode :=
  (.seq (.region [
    ⟨(some 4), none, .act, .box (.tmp 1)⟩,
    ⟨(some 5), none, .act, .box (.tmp 2)⟩])
  (.region [
    ⟨(some 6), none, .act, .mv (.tmp 0)⟩,
    ⟨(some 7), none, .act, .mv (.tmp 0)⟩,
    ⟨(some 8), none, .act, .nilCheck (.tmp 7)⟩,
    ⟨(some 9), none, .act, .fieldAddr 1 (.tmp 8)⟩,
    ⟨(some 10), none, .act, .load false 1 (.tmp 9)⟩,
    ⟨(some 11), none, .act, .makeFunc (.func 168) [] [(.tmp 4), (.tmp 5)]⟩,
    ⟨(some 12), none, .act, .call 125 [(.tmp 10), (.tmp 11)]⟩,
    ⟨(some 13), none, .act, .nilCheck (.tmp 6)⟩,
    ⟨(some 14), none, .act, .fieldAddr 1 (.tmp 13)⟩,
    ⟨none, none, .act, .store 1 (.tmp 14) (.tmp 12)⟩]))
theorem res127 : ∃ c, Tryz.f127.body = some c ∧ resCode Tryz.prog 15 c = some r127 := ⟨_, rfl, by kernel_rfl⟩
theorem rr127 : resRes Tryz.prog Tryz.f127.results.toList = some [] := by kernel_rfl
theorem fok127 : FOk Tryz.prog 127 ⟨r127, 15, []⟩ := by
  obtain ⟨c, h1, h2⟩ := res127
  exact ⟨by kernel_rfl, _, c, Tryz.func127, h1, Tryz.ntmps127, ⟨_, h2⟩, rr127⟩
def r47 : RCode :=
  (.seq (.region [
    ⟨(some 2), none, .act, .mv (.tmp 0)⟩,
    ⟨(some 3), none, .act, .mv (.tmp 0)⟩,
    ⟨(some 4), none, .act, .mv (.tmp 0)⟩,
    ⟨(some 5), none, .act, .nilCheck (.tmp 2)⟩,
    ⟨(some 6), none, .act, .fieldAddr 0 (.tmp 5)⟩,
    ⟨none, none, .act, .store 1 (.tmp 6) (.const (.int .u64 0))⟩,
    ⟨(some 7), none, .act, .nilCheck (.tmp 3)⟩,
    ⟨(some 8), none, .act, .fieldAddr 1 (.tmp 7)⟩,
    ⟨none, none, .act, .store 1 (.tmp 8) (.const (.int .i64 0))⟩,
    ⟨(some 9), none, .act, .nilCheck (.tmp 4)⟩,
    ⟨(some 10), none, .act, .fieldAddr 2 (.tmp 9)⟩,
    ⟨none, none, .act, .store 1 (.tmp 10) (.const (.int .u64 0))⟩])
  (.region [
    ⟨(some 11), none, .act, .mv (.tmp 0)⟩,
    ⟨(some 12), none, .act, .mv (.tmp 0)⟩,
    ⟨(some 13), none, .act, .mv (.tmp 0)⟩,
    ⟨(some 14), none, .act, .nilCheck (.tmp 11)⟩,
    ⟨(some 15), none, .act, .fieldAddr 3 (.tmp 14)⟩,
    ⟨none, none, .act, .store 1 (.tmp 15) (.const (.slice none 0 0))⟩,
    ⟨(some 16), none, .act, .nilCheck (.tmp 12)⟩,
    ⟨(some 17), none, .act, .fieldAddr 4 (.tmp 16)⟩,
    ⟨none, none, .act, .store 1 (.tmp 17) (.const (.slice none 0 0))⟩,
    ⟨(some 18), none, .act, .nilCheck (.tmp 13)⟩,
    ⟨(some 19), none, .act, .fieldAddr 5 (.tmp 18)⟩,
    ⟨none, none, .act, .store 1 (.tmp 19) (.const (.slice none 0 0))⟩]))
theorem res47 : ∃ c, Tryz.f47.body = some c ∧ resCode Tryz.prog 20 c = some r47 := ⟨_, rfl, by kernel_rfl⟩
theorem rr47 : resRes Tryz.prog Tryz.f47.results.toList = some [] := by kernel_rfl
theorem fok47 : FOk Tryz.prog 47 ⟨r47, 20, []⟩ := by
  obtain ⟨c, h1, h2⟩ := res47
  exact ⟨by kernel_rfl, _, c, Tryz.func47, h1, Tryz.ntmps47, ⟨_, h2⟩, rr47⟩
def tabL : List (Nat × RF) :=
  [(4, ⟨r4, 49, [.tmp 0]⟩),
   (18, ⟨r18, 26, [.tmp 2]⟩),
   (36, ⟨r36, 26, [.tmp 2]⟩),
   (65, ⟨r65, 4, [.tmp 2]⟩),
   (64, ⟨r64, 12, [.tmp 4]⟩),
   (85, ⟨r85, 5, [.tmp 2]⟩),
   (111, ⟨r111, 13, [.tmp 4]⟩),
   (87, ⟨r87, 16, []⟩),
   (86, ⟨r86, 14, []⟩),
   (113, ⟨r113, 8, [.tmp 2]⟩),
   (150, ⟨r150, 25, [.tmp 2]⟩),
   (112, ⟨r112, 148, []⟩),
   (141, ⟨r141, 53, []⟩),
   (37, ⟨r37, 5, [.tmp 0]⟩),
   (67, ⟨r67, 3, [.tmp 0]⟩),
   (38, ⟨r38, 5, [.tmp 0]⟩),
   (68, ⟨r68, 5, [.tmp 0]⟩),
   (11, ⟨r11, 46, [.cell 6 true 4, .tmp 7]⟩),
   (14, ⟨r14, 9, [.tmp 2]⟩),
   (12, ⟨r12, 45, [.tmp 6]⟩),
   (20, ⟨r20, 12, [.tmp 2]⟩),
   (27, ⟨r27, 25, [.tmp 4]⟩),
   (28, ⟨r28, 83, [.cell 2 true 11]⟩),
   (51, ⟨r51, 8, [.tmp 2]⟩),
   (52, ⟨r52, 8, [.tmp 2]⟩),
   (53, ⟨r53, 8, [.tmp 2]⟩),
   (54, ⟨r54, 8, [.tmp 2]⟩),
   (30, ⟨r30, 109, [.tmp 4]⟩),
   (29, ⟨r29, 10, []⟩),
   (40, ⟨r40, 11, []⟩),
   (17, ⟨r17, 28, [.tmp 4]⟩),
   (8, ⟨r8, 89, [.tmp 4, .cell 5 true 21, .tmp 6]⟩),
   (24, ⟨r24, 72, [.tmp 4, .cell 5 true 21, .tmp 6]⟩),
   (9, ⟨r9, 71, [.cell 4 true 4, .tmp 5]⟩),
   (25, ⟨r25, 8, [.tmp 2]⟩),
   (26, ⟨r26, 8, [.tmp 2]⟩),
   (35, ⟨r35, 21, [.cell 6 true 7]⟩),
   (62, ⟨r62, 63, [.cell 4 true 7]⟩),
   (81, ⟨r81, 12, [.tmp 2]⟩),
   (82, ⟨r82, 74, [.cell 4 true 7]⟩),
   (6, ⟨r6, 62, []⟩),
   (21, ⟨r21, 160, []⟩),
   (39, ⟨r39, 26, []⟩),
   (58, ⟨r58, 51, []⟩),
   (79, ⟨r79, 32, [.tmp 6]⟩),
   (95, ⟨r95, 41, [.tmp 2]⟩),
   (121, ⟨r121, 4, [.tmp 2]⟩),
   (93, ⟨r93, 9, [.tmp 2]⟩),
   (118, ⟨r118, 5, [.tmp 2]⟩),
   (153, ⟨r153, 13, [.tmp 4]⟩),
   (155, ⟨r155, 14, []⟩),
   (119, ⟨r119, 11, []⟩),
   (154, ⟨r154, 134, []⟩),
   (181, ⟨r181, 49, []⟩),
   (98, ⟨r98, 48, [.cell 4 true 7]⟩),
   (122, ⟨r122, 24, [.tmp 4]⟩),
   (46, ⟨r46, 63, []⟩),
   (75, ⟨r75, 20, [.tmp 2]⟩),
   (101, ⟨r101, 33, [.tmp 4]⟩),
   (124, ⟨r124, 11, [.tmp 2]⟩),
   (125, ⟨r125, 42, [.tmp 4]⟩),
   (167, ⟨r167, 19, [.tmp 4]⟩),
   (127, ⟨r127, 15, []⟩),
   (47, ⟨r47, 20, []⟩)]
theorem tabL_ok : ∀ p ∈ tabL, FOk Tryz.prog p.1 p.2 :=
  List.forall_mem_cons.2 ⟨fok4, List.forall_mem_cons.2 ⟨fok18, List.forall_mem_cons.2 ⟨fok36, List.forall_mem_cons.2 ⟨fok65, List.forall_mem_cons.2 ⟨fok64, List.forall_mem_cons.2 ⟨fok85, List.forall_mem_cons.2 ⟨fok111, List.forall_mem_cons.2 ⟨fok87, List.forall_mem_cons.2 ⟨fok86, List.forall_mem_cons.2 ⟨fok113, List.forall_mem_cons.2 ⟨fok150, List.forall_mem_cons.2 ⟨fok112, List.forall_mem_cons.2 ⟨fok141, List.forall_mem_cons.2 ⟨fok37, List.forall_mem_cons.2 ⟨fok67, List.forall_mem_cons.2 ⟨fok38, List.forall_mem_cons.2 ⟨fok68, List.forall_mem_cons.2 ⟨fok11, List.forall_mem_cons.2 ⟨fok14, List.forall_mem_cons.2 ⟨fok12, List.forall_mem_cons.2 ⟨fok20, List.forall_mem_cons.2 ⟨fok27, List.forall_mem_cons.2 ⟨fok28, List.forall_mem_cons.2 ⟨fok51, List.forall_mem_cons.2 ⟨fok52, List.forall_mem_cons.2 ⟨fok53, List.forall_mem_cons.2 ⟨fok54, List.forall_mem_cons.2 ⟨fok30, List.forall_mem_cons.2 ⟨fok29, List.forall_mem_cons.2 ⟨fok40, List.forall_mem_cons.2 ⟨fok17, List.forall_mem_cons.2 ⟨fok8, List.forall_mem_cons.2 ⟨fok24, List.forall_mem_cons.2 ⟨fok9, List.forall_mem_cons.2 ⟨fok25, List.forall_mem_cons.2 ⟨fok26, List.forall_mem_cons.2 ⟨fok35, List.forall_mem_cons.2 ⟨fok62, List.forall_mem_cons.2 ⟨fok81, List.forall_mem_cons.2 ⟨fok82, List.forall_mem_cons.2 ⟨fok6, List.forall_mem_cons.2 ⟨fok21, List.forall_mem_cons.2 ⟨fok39, List.forall_mem_cons.2 ⟨fok58, List.forall_mem_cons.2 ⟨fok79, List.forall_mem_cons.2 ⟨fok95, List.forall_mem_cons.2 ⟨fok121, List.forall_mem_cons.2 ⟨fok93, List.forall_mem_cons.2 ⟨fok118, List.forall_mem_cons.2 ⟨fok153, List.forall_mem_cons.2 ⟨fok155, List.forall_mem_cons.2 ⟨fok119, List.forall_mem_cons.2 ⟨fok154, List.forall_mem_cons.2 ⟨fok181, List.forall_mem_cons.2 ⟨fok98, List.forall_mem_cons.2 ⟨fok122, List.forall_mem_cons.2 ⟨fok46, List.forall_mem_cons.2 ⟨fok75, List.forall_mem_cons.2 ⟨fok101, List.forall_mem_cons.2 ⟨fok124, List.forall_mem_cons.2 ⟨fok125, List.forall_mem_cons.2 ⟨fok167, List.forall_mem_cons.2 ⟨fok127, List.forall_mem_cons.2 ⟨fok47, List.forall_mem_nil _⟩⟩⟩⟩⟩⟩⟩⟩⟩⟩⟩⟩⟩⟩⟩⟩⟩⟩⟩⟩⟩⟩⟩⟩⟩⟩⟩⟩⟩⟩⟩⟩⟩⟩⟩⟩⟩⟩⟩⟩⟩⟩⟩⟩⟩⟩⟩⟩⟩⟩⟩⟩⟩⟩⟩⟩⟩⟩⟩⟩⟩⟩⟩⟩
theorem tab_ok : TabOk Tryz.prog (lookT tabL) := TabOk.of_list tabL_ok
end Go.Proofs.YtpgkpiodekdlnaaGreat

namespace Go.Proofs.YtpgkpiodekdlnaaGreat
open Go.Av
def kkT : Kx := ⟨fun t => match Nat.beq t 30 with | true => some (.int .u64) | false => none, fun s => Nat.beq s 3⟩
theorem kk_ok : KkOk Tryz.prog kkT := fun t q h => by
  simp only [kkT] at h
  rcases nbeq (a := t) (b := 30) with ⟨h1, h2⟩ | ⟨h1, h2⟩
  · rw [h1] at h
    cases h
    subst h2
    exact KeyR.int Tryz.underlying30
  · rw [h1] at h; cases h
def isTrue (x : Option (EV × List EBlk)) : Bool := match x with | some (.k (.bool true), _) => true | _ => false
theorem isTrue_ok {x : Option (EV × List EBlk)} (h : isTrue x = true) : ∃ H', x = some (.k (.bool true), H') := by
  unfold isTrue at h
  split at h
  · exact ⟨_, rfl⟩
  · cases h
theorem awake_run : isTrue (evalCall kkT (lookT tabL) 2000 30 4 [] []) = true := by kernel_rfl
theorem awake_spec (h : AHeap) : ACalls Tryz.prog 4 [] h (fun x h' => x = .v (.bool true) ∧ h' = h) := by
  obtain ⟨H', he⟩ := isTrue_ok awake_run
  exact ACalls.eval kk_ok tab_ok (args := []) he h
end Go.Proofs.YtpgkpiodekdlnaaGreat

namespace Go.Proofs.YtpgkpiodekdlnaaGreat
open Go.Av
structure Write where
  key : List UInt8
  dead : Bool
  val : List UInt8
structure Span where
  lo : List UInt8
  hi : List UInt8
structure Col where
  name : List UInt8
  kind : Int
  nn : Bool
structure Table where
  id : Int
  name : List UInt8
  cols : List Col
  key : Int
  idx : List Int
structure Ask where
  kind : Int
  level : Int
  spans : List Span
  upd : Bool
  writes : List Write
  name : List UInt8
  table : Table
def Write.cells (w : Write) : List AV := [bys w.key, bl w.dead, bys w.val]
def Span.cells (s : Span) : List AV := [bys s.lo, bys s.hi]
def Col.cells (c : Col) : List AV := [str c.name, i64 c.kind, bl c.nn]
def writesV (l : List Write) : AV := .sl 3 (l.map Write.cells) .ro
def spansV (l : List Span) : AV := .sl 2 (l.map Span.cells) .ro
def colsV (l : List Col) : AV := .sl 3 (l.map Col.cells) .ro
def idxsV (l : List Int) : AV := .sl 1 (l.map fun x => [i64 x]) .ro
def Table.cells (t : Table) : List AV := [i64 t.id, str t.name, colsV t.cols, i64 t.key, idxsV t.idx]
def Ask.cells (a : Ask) : List AV := [i64 a.kind, i64 a.level, spansV a.spans, bl a.upd, writesV a.writes, str a.name] ++ a.table.cells
def nilP : AV := .v (.pointer none)
def zI : AV := .v (.int .i64 0)
def zU : AV := .v (.int .u64 0)
def eRange : AV := .v (.int .i64 1)
def nilS : AV := .v (.slice none 0 0)
def ff : AV := .v (.bool false)
def noStr : AV := .v (.string ⟨#[]⟩)
def cmd (t : Table) : List AV := [zU, zU, zI, zU, zU, ff, zU, zI, zI, nilS, nilS, nilS, nilS, nilS, nilS, nilS] ++ t.cells
abbrev QB (h₀ : AHeap) : AV → AHeap → Prop := Weak fun x h' => ∃ b, x = bl b ∧ h' = h₀
def r19l1 : RCode :=
  (.seq (.region [
    ⟨(some 78), none, .act, .bin .lss (.tmp 77) (.tmp 76)⟩])
  (.seq (.cond (.tmp 78)
   .skip
   (.exit 2))
  (.seq (.block 3
   (.seq (.region [
     ⟨(some 79), none, .act, .indexAddr 3 (.tmp 75) (.tmp 77)⟩,
     ⟨(some 80), none, .act, .load true 3 (.tmp 79)⟩,
     ⟨(some 6), none, .act, .alloc [(.slice none 0 0), (.bool false), (.slice none 0 0)]⟩,
     ⟨none, none, .act, .store 3 (.tmp 6) (.tmp 80)⟩])
   (.seq (.region [
     ⟨(some 81), none, .act, .fieldAddr 0 (.tmp 6)⟩,
     ⟨(some 82), none, .act, .load false 1 (.tmp 81)⟩,
     ⟨(some 83), none, .act, .len (.tmp 82)⟩,
     ⟨(some 84), none, .act, .fieldAddr 2 (.tmp 6)⟩,
     ⟨(some 85), none, .act, .load false 1 (.tmp 84)⟩,
     ⟨(some 86), none, .act, .len (.tmp 85)⟩,
     ⟨(some 87), none, .act, .bin .add (.tmp 83) (.tmp 86)⟩,
     ⟨(some 88), none, .act, .bin .gtr (.tmp 87) (.const (.int .i64 300))⟩])
   (.cond (.tmp 88)
    (.seq (.region [
      ⟨(some 2), none, .act, .mv (.const (.bool false))⟩])
    .ret)
    .skip))))
  (.region [
    ⟨(some 89), none, .act, .bin .add (.tmp 77) (.const (.int .i64 1))⟩,
    ⟨(some 77), none, .act, .mv (.tmp 89)⟩]))))
def r19l2 : RCode :=
  (.seq (.region [
    ⟨(some 94), none, .act, .bin .lss (.tmp 93) (.tmp 92)⟩])
  (.seq (.cond (.tmp 94)
   .skip
   (.exit 4))
  (.seq (.block 5
   (.seq (.region [
     ⟨(some 95), none, .act, .indexAddr 1 (.tmp 91) (.tmp 93)⟩,
     ⟨(some 96), none, .act, .load false 1 (.tmp 95)⟩,
     ⟨(some 8), none, .act, .mv (.tmp 96)⟩])
   (.seq (.region [
     ⟨(some 97), none, .act, .mv (.tmp 8)⟩,
     ⟨(some 98), none, .act, .len (.tmp 97)⟩,
     ⟨(some 99), none, .act, .bin .gtr (.tmp 98) (.const (.int .i64 100))⟩])
   (.cond (.tmp 99)
    (.seq (.region [
      ⟨(some 2), none, .act, .mv (.const (.bool false))⟩])
    .ret)
    .skip))))
  (.region [
    ⟨(some 100), none, .act, .bin .add (.tmp 93) (.const (.int .i64 1))⟩,
    ⟨(some 93), none, .act, .mv (.tmp 100)⟩]))))
def r19l3 : RCode :=
  (.seq (.region [
    ⟨(some 106), none, .act, .bin .lss (.tmp 105) (.tmp 104)⟩])
  (.seq (.cond (.tmp 106)
   .skip
   (.exit 6))
  (.seq (.block 7
   (.seq (.region [
     ⟨(some 107), none, .act, .indexAddr 3 (.tmp 103) (.tmp 105)⟩,
     ⟨(some 108), none, .act, .load true 3 (.tmp 107)⟩,
     ⟨(some 10), none, .act, .alloc [(.string ⟨#[]⟩), (.int .i64 0), (.bool false)]⟩,
     ⟨none, none, .act, .store 3 (.tmp 10) (.tmp 108)⟩])
   (.seq (.region [
     ⟨(some 109), none, .act, .fieldAddr 0 (.tmp 10)⟩,
     ⟨(some 110), none, .act, .load false 1 (.tmp 109)⟩,
     ⟨(some 111), none, .act, .lenStr (.tmp 110)⟩,
     ⟨(some 112), none, .act, .bin .gtr (.tmp 111) (.const (.int .i64 100))⟩])
   (.cond (.tmp 112)
    (.seq (.region [
      ⟨(some 2), none, .act, .mv (.const (.bool false))⟩])
    .ret)
    .skip))))
  (.region [
    ⟨(some 113), none, .act, .bin .add (.tmp 105) (.const (.int .i64 1))⟩,
    ⟨(some 105), none, .act, .mv (.tmp 113)⟩]))))
def r19l0 : RCode :=
  (.seq (.region [
    ⟨(some 14), none, .act, .bin .lss (.tmp 13) (.tmp 12)⟩])
  (.seq (.cond (.tmp 14)
   .skip
   (.exit 0))
  (.seq (.block 1
   (.seq (.region [
     ⟨(some 15), none, .act, .indexAddr 21 (.tmp 11) (.tmp 13)⟩,
     ⟨(some 16), none, .act, .load true 21 (.tmp 15)⟩,
     ⟨(some 4), none, .act, .alloc [(.int .u64 0), (.int .u64 0), (.int .i64 0), (.int .u64 0), (.int .u64 0), (.bool false), (.int .u64 0), (.int .i64 0), (.int .i64 0), (.slice none 0 0), (.slice none 0 0), (.slice none 0 0), (.slice none 0 0), (.slice none 0 0), (.slice none 0 0), (.slice none 0 0), (.int .i64 0), (.string ⟨#[]⟩), (.slice none 0 0), (.int .i64 0), (.slice none 0 0)]⟩,
     ⟨none, none, .act, .store 21 (.tmp 4) (.tmp 16)⟩])
   (.seq (.seq (.region [
     ⟨(some 17), none, .act, .fieldAddr 11 (.tmp 4)⟩,
     ⟨(some 18), none, .act, .load false 1 (.tmp 17)⟩,
     ⟨(some 19), none, .act, .len (.tmp 18)⟩,
     ⟨(some 20), none, .act, .fieldAddr 12 (.tmp 4)⟩,
     ⟨(some 21), none, .act, .load false 1 (.tmp 20)⟩,
     ⟨(some 22), none, .act, .len (.tmp 21)⟩,
     ⟨(some 23), none, .act, .bin .add (.tmp 19) (.tmp 22)⟩,
     ⟨(some 24), none, .act, .fieldAddr 6 (.tmp 4)⟩,
     ⟨(some 25), none, .act, .fieldAddr 3 (.tmp 24)⟩,
     ⟨(some 26), none, .act, .load false 1 (.tmp 25)⟩,
     ⟨(some 27), none, .act, .len (.tmp 26)⟩,
     ⟨(some 28), none, .act, .bin .add (.tmp 23) (.tmp 27)⟩,
     ⟨(some 29), none, .act, .fieldAddr 6 (.tmp 4)⟩,
     ⟨(some 30), none, .act, .fieldAddr 4 (.tmp 29)⟩,
     ⟨(some 31), none, .act, .load false 1 (.tmp 30)⟩,
     ⟨(some 32), none, .act, .len (.tmp 31)⟩,
     ⟨(some 33), none, .act, .bin .add (.tmp 28) (.tmp 32)⟩,
     ⟨(some 34), none, .act, .bin .gtr (.tmp 33) (.const (.int .i64 200))⟩,
     ⟨(some 35), none, .act, .mv (.tmp 34)⟩,
     ⟨(some 36), (some (35, false)), .act, .fieldAddr 13 (.tmp 4)⟩,
     ⟨(some 37), (some (35, false)), .act, .load false 1 (.tmp 36)⟩,
     ⟨(some 38), (some (35, false)), .act, .len (.tmp 37)⟩,
     ⟨(some 39), (some (35, false)), .act, .bin .gtr (.tmp 38) (.const (.int .i64 10))⟩,
     ⟨(some 40), none, .act, .pick (.tmp 35) (.const (.bool true)) (.tmp 39)⟩,
     ⟨(some 41), none, .act, .mv (.tmp 40)⟩,
     ⟨(some 42), (some (41, false)), .act, .fieldAddr 14 (.tmp 4)⟩,
     ⟨(some 43), (some (41, false)), .act, .load false 1 (.tmp 42)⟩,
     ⟨(some 44), (some (41, false)), .act, .len (.tmp 43)⟩,
     ⟨(some 45), (some (41, false)), .act, .bin .gtr (.tmp 44) (.const (.int .i64 10))⟩,
     ⟨(some 46), none, .act, .pick (.tmp 41) (.const (.bool true)) (.tmp 45)⟩,
     ⟨(some 47), none, .act, .mv (.tmp 46)⟩,
     ⟨(some 48), (some (47, false)), .act, .fieldAddr 15 (.tmp 4)⟩,
     ⟨(some 49), (some (47, false)), .act, .load false 1 (.tmp 48)⟩,
     ⟨(some 50), (some (47, false)), .act, .len (.tmp 49)⟩,
     ⟨(some 51), (some (47, false)), .act, .bin .gtr (.tmp 50) (.const (.int .i64 10))⟩,
     ⟨(some 52), none, .act, .pick (.tmp 47) (.const (.bool true)) (.tmp 51)⟩,
     ⟨(some 53), none, .act, .mv (.tmp 52)⟩,
     ⟨(some 54), (some (53, false)), .act, .fieldAddr 16 (.tmp 4)⟩,
     ⟨(some 55), (some (53, false)), .act, .fieldAddr 2 (.tmp 54)⟩,
     ⟨(some 56), (some (53, false)), .act, .load false 1 (.tmp 55)⟩,
     ⟨(some 57), (some (53, false)), .act, .len (.tmp 56)⟩,
     ⟨(some 58), (some (53, false)), .act, .bin .gtr (.tmp 57) (.const (.int .i64 14))⟩,
     ⟨(some 59), none, .act, .pick (.tmp 53) (.const (.bool true)) (.tmp 58)⟩,
     ⟨(some 60), none, .act, .mv (.tmp 59)⟩,
     ⟨(some 61), (some (60, false)), .act, .fieldAddr 16 (.tmp 4)⟩,
     ⟨(some 62), (some (60, false)), .act, .fieldAddr 4 (.tmp 61)⟩,
     ⟨(some 63), (some (60, false)), .act, .load false 1 (.tmp 62)⟩,
     ⟨(some 64), (some (60, false)), .act, .len (.tmp 63)⟩,
     ⟨(some 65), (some (60, false)), .act, .bin .gtr (.tmp 64) (.const (.int .i64 6))⟩,
     ⟨(some 66), none, .act, .pick (.tmp 60) (.const (.bool true)) (.tmp 65)⟩,
     ⟨(some 67), none, .act, .mv (.tmp 66)⟩,
     ⟨(some 68), (some (67, false)), .act, .fieldAddr 16 (.tmp 4)⟩,
     ⟨(some 69), (some (67, false)), .act, .fieldAddr 1 (.tmp 68)⟩,
     ⟨(some 70), (some (67, false)), .act, .load false 1 (.tmp 69)⟩,
     ⟨(some 71), (some (67, false)), .act, .lenStr (.tmp 70)⟩,
     ⟨(some 72), (some (67, false)), .act, .bin .gtr (.tmp 71) (.const (.int .i64 100))⟩,
     ⟨(some 73), none, .act, .pick (.tmp 67) (.const (.bool true)) (.tmp 72)⟩])
   (.cond (.tmp 73)
    (.seq (.region [
      ⟨(some 2), none, .act, .mv (.const (.bool false))⟩])
    .ret)
    .skip))
   (.seq (.seq (.region [
     ⟨(some 74), none, .act, .fieldAddr 14 (.tmp 4)⟩,
     ⟨(some 75), none, .act, .load false 1 (.tmp 74)⟩,
     ⟨(some 76), none, .act, .len (.tmp 75)⟩,
     ⟨(some 77), none, .act, .mv (.const (.int .i64 0))⟩])
   (.block 2
    (.loop r19l1)))
   (.seq (.seq (.region [
     ⟨(some 90), none, .act, .fieldAddr 15 (.tmp 4)⟩,
     ⟨(some 91), none, .act, .load false 1 (.tmp 90)⟩,
     ⟨(some 92), none, .act, .len (.tmp 91)⟩,
     ⟨(some 93), none, .act, .mv (.const (.int .i64 0))⟩])
   (.block 4
    (.loop r19l2)))
   (.seq (.region [
     ⟨(some 101), none, .act, .fieldAddr 16 (.tmp 4)⟩,
     ⟨(some 102), none, .act, .fieldAddr 2 (.tmp 101)⟩,
     ⟨(some 103), none, .act, .load false 1 (.tmp 102)⟩,
     ⟨(some 104), none, .act, .len (.tmp 103)⟩,
     ⟨(some 105), none, .act, .mv (.const (.int .i64 0))⟩])
   (.block 6
    (.loop r19l3))))))))
  (.region [
    ⟨(some 114), none, .act, .bin .add (.tmp 13) (.const (.int .i64 1))⟩,
    ⟨(some 13), none, .act, .mv (.tmp 114)⟩]))))
def r19 : RCode :=
  (.seq (.region [
    ⟨(some 2), none, .act, .mv (.const (.bool false))⟩])
  (.seq (.seq (.region [
    ⟨(some 11), none, .act, .mv (.tmp 0)⟩,
    ⟨(some 12), none, .act, .len (.tmp 11)⟩,
    ⟨(some 13), none, .act, .mv (.const (.int .i64 0))⟩])
  (.block 0
   (.loop r19l0)))
  (.seq (.region [
    ⟨(some 115), none, .act, .mv (.tmp 0)⟩,
    ⟨(some 116), none, .act, .len (.tmp 115)⟩,
    ⟨(some 117), none, .act, .bin .leq (.tmp 116) (.const (.int .i64 40))⟩,
    ⟨(some 2), none, .act, .mv (.tmp 117)⟩])
  .ret)))
theorem res19 : ∃ c, Tryz.f19.body = some c ∧ resCode Tryz.prog 118 c = some r19 := ⟨_, rfl, by kernel_rfl⟩
theorem rr19 : resRes Tryz.prog Tryz.f19.results.toList = some [.tmp 2] := by kernel_rfl
theorem cols_loop (l : List Col) (hl : l.length ≤ 9223372036854775807) (hs : ∀ c ∈ l, c.name.length ≤ 9223372036854775807) (h₀ : AHeap) (k : List RT) (a b c d : AV)
    (hk : ∀ h, h₀.le h → RRun Tryz.prog Tryz.f19 118 k (Env.get [(13, a), (12, b), (11, c), (0, d)]) h (QB h₀)) (m : Nat) :
    ∀ (i : Nat) (h : AHeap), i + m = l.length → h₀.le h →
      RRun Tryz.prog Tryz.f19 118 (.inLoop r19l3 :: .inBlock 6 :: k) (Env.get [(105, i64 i), (104, i64 (l.map Col.cells).length), (103, colsV l), (13, a), (12, b), (11, c), (0, d)]) h (QB h₀) := by
  induction m with
  | zero =>
    intro i h hi hg
    have hlen0 : (l.map Col.cells).length = l.length := by simp
    refine RRun.inLoop ?_
    repeat' (first | refine S.nilK ?_ | (refine S.op rfl ?_; first | ((first | refine S.lss rfl rfl ?_ ?_) <;> intro hlt <;> try (exfalso; omega))) | refine S.seq ?_ | refine S.region ?_ | refine S.condF rfl ?_ | refine RRun.exit rfl ?_)
    exact S.keep [13, 12, 11, 0] rfl (hk h hg)
  | succ m ih =>
    intro i h hi hg
    have hie : i < l.length := by omega
    have h1 : (l.map Col.cells)[((i : Nat) : Int).toNat]? = some l[i].cells := by simp [hie]
    have hlen0 : (l.map Col.cells).length = l.length := by simp
    have h2 := hs l[i] (List.getElem_mem hie)
    refine RRun.inLoop ?_
    repeat' (first | refine S.nilK ?_ | (refine S.op rfl ?_; first | refine R.indexAddr rfl rfl (by omega) h1 ?_ | refine R.mv rfl ?_ | refine R.fieldAddr rfl ?_ | refine R.loadR rfl rfl ?_ | refine R.load (by decide) rfl (by (repeat' (first | exact AHeap.set_same _ _ _)); first | done | fail) rfl ?_ | refine S.addI rfl rfl (by omega) ?_ | refine R.lenStr rfl ?_ | refine R.alloc rfl (fun b hb => ?_) | ((first | refine S.lss rfl rfl ?_ ?_ | refine S.gtr rfl rfl ?_ ?_) <;> intro hlt <;> try (exfalso; omega))) | (refine S.op0 rfl ?_; first | refine S.storeS rfl rfl rfl (by rfl) rfl (by first | decide | exact Nat.le_refl _ | exact Nat.le_of_ble_eq_true rfl) ?_) | refine S.seq ?_ | refine S.region ?_ | refine S.condT rfl ?_ | refine S.condF rfl ?_ | refine RRun.skip ?_ | refine RRun.block ?_ | refine RRun.inBlock ?_)
    ·
      apply S.ret rr19
      case hx => repeat (first | exact ResAt.nil | apply ResAt.tmp rfl)
      exact ⟨_, _, .refl _, hg.set _ (hg.none (by assumption)), _, rfl, rfl⟩
    · rw [show ((i : Int) + 1) = ((i + 1 : Nat) : Int) by omega]
      exact S.keep [105, 104, 103, 13, 12, 11, 0] rfl (ih (i + 1) _ (by omega) (hg.set _ (hg.none (by assumption))))
theorem small19_spec (t : Table) (hl : t.cols.length ≤ 9223372036854775807) (hs : ∀ c ∈ t.cols, c.name.length ≤ 9223372036854775807) (hn : t.name.length ≤ 9223372036854775807) (hx : t.idx.length ≤ 9223372036854775807) (h : AHeap) :
    ACalls Tryz.prog 19 [.sl 21 [cmd t] .full] h (fun x h' => ∃ b, x = bl b ∧ h' = h) := by
  have hgi : [cmd t][(0 : Int).toNat]? = some (cmd t) := rfl
  have hl1 : (t.cols.map Col.cells).length = t.cols.length := by simp
  have hl2 : (t.idx.map fun x => [i64 x]).length = t.idx.length := by simp
  have hl3 : [cmd t].length = 1 := rfl
  obtain ⟨c, hc1, hc2⟩ := res19
  refine ACalls.weak (ACalls.enter Tryz.func19 hc1 Tryz.ntmps19 hc2 (Nat.le_of_ble_eq_true rfl) rfl ?_)
  repeat' (first | ((show RRun Tryz.prog Tryz.f19 118 (.code (.loop r19l3) :: _) _ _ _; refine RRun.loopIn (S.keep [105, 104, 103, 13, 12, 11, 0] rfl (cols_loop t.cols hl hs h _ _ _ _ _ (fun h7 hle7 => ?_) t.cols.length 0 _ (Nat.zero_add _) (by repeat (first | exact AHeap.le.refl _ | refine AHeap.le.set ?_ _ (by (repeat' (first | assumption)); first | done | fail))))))) | (refine RRun.loopIn ?_) | (refine RRun.inLoop ?_) | refine S.nilK ?_ | (refine S.op rfl ?_; first | refine R.indexAddr rfl rfl (by omega) hgi ?_ | refine R.mv rfl ?_ | refine R.fieldAddr rfl ?_ | refine R.loadR rfl rfl ?_ | refine R.load (by decide) rfl (by (repeat' (first | exact AHeap.set_same _ _ _)); first | done | fail) rfl ?_ | refine S.addI rfl rfl (by omega) ?_ | refine R.pickT rfl rfl ?_ | refine R.pickF rfl rfl ?_ | refine R.len rfl ?_ | refine R.lenA rfl ?_ | refine R.lenStr rfl ?_ | refine R.alloc rfl (fun b hb => ?_) | ((first | refine S.lss rfl rfl ?_ ?_ | refine S.gtr rfl rfl ?_ ?_ | refine S.leq rfl rfl ?_ ?_) <;> intro hlt <;> try (exfalso; omega))) | (refine S.op0 rfl ?_; first | refine S.storeS rfl rfl rfl (by rfl) rfl (by first | decide | exact Nat.le_refl _ | exact Nat.le_of_ble_eq_true rfl) ?_) | refine S.skip rfl ?_ | refine S.seq ?_ | refine S.region ?_ | refine S.condT rfl ?_ | refine S.condF rfl ?_ | refine RRun.skip ?_ | refine RRun.block ?_ | refine RRun.inBlock ?_ | refine RRun.exit rfl ?_)
  all_goals
    apply S.ret rr19
    case hx => repeat (first | exact ResAt.nil | apply ResAt.tmp rfl)
    exact ⟨_, _, .refl _, (by first | exact hle7 | exact (by repeat (first | exact AHeap.le.refl _ | refine AHeap.le.set ?_ _ (by (repeat' (first | assumption)); first | done | fail)))), _, rfl, rfl⟩
def r5l0 : RCode :=
  (.seq (.region [
    ⟨(some 11), none, .act, .bin .lss (.tmp 10) (.tmp 9)⟩])
  (.seq (.cond (.tmp 11)
   .skip
   (.exit 0))
  (.seq (.block 1
   (.seq (.region [
     ⟨(some 12), none, .act, .indexAddr 3 (.tmp 8) (.tmp 10)⟩,
     ⟨(some 13), none, .act, .load true 3 (.tmp 12)⟩,
     ⟨(some 4), none, .act, .alloc [(.slice none 0 0), (.bool false), (.slice none 0 0)]⟩,
     ⟨none, none, .act, .store 3 (.tmp 4) (.tmp 13)⟩])
   (.seq (.region [
     ⟨(some 14), none, .act, .fieldAddr 0 (.tmp 4)⟩,
     ⟨(some 15), none, .act, .load false 1 (.tmp 14)⟩,
     ⟨(some 16), none, .act, .len (.tmp 15)⟩,
     ⟨(some 17), none, .act, .fieldAddr 2 (.tmp 4)⟩,
     ⟨(some 18), none, .act, .load false 1 (.tmp 17)⟩,
     ⟨(some 19), none, .act, .len (.tmp 18)⟩,
     ⟨(some 20), none, .act, .bin .add (.tmp 16) (.tmp 19)⟩,
     ⟨(some 21), none, .act, .bin .gtr (.tmp 20) (.const (.int .i64 100))⟩])
   (.cond (.tmp 21)
    (.seq (.region [
      ⟨(some 2), none, .act, .mv (.const (.bool false))⟩])
    .ret)
    .skip))))
  (.region [
    ⟨(some 22), none, .act, .bin .add (.tmp 10) (.const (.int .i64 1))⟩,
    ⟨(some 10), none, .act, .mv (.tmp 22)⟩]))))
def r5l1 : RCode :=
  (.seq (.region [
    ⟨(some 27), none, .act, .bin .lss (.tmp 26) (.tmp 25)⟩])
  (.seq (.cond (.tmp 27)
   .skip
   (.exit 2))
  (.seq (.block 3
   (.seq (.region [
     ⟨(some 28), none, .act, .indexAddr 2 (.tmp 24) (.tmp 26)⟩,
     ⟨(some 29), none, .act, .load true 2 (.tmp 28)⟩,
     ⟨(some 6), none, .act, .alloc [(.slice none 0 0), (.slice none 0 0)]⟩,
     ⟨none, none, .act, .store 2 (.tmp 6) (.tmp 29)⟩])
   (.seq (.region [
     ⟨(some 30), none, .act, .fieldAddr 0 (.tmp 6)⟩,
     ⟨(some 31), none, .act, .load false 1 (.tmp 30)⟩,
     ⟨(some 32), none, .act, .len (.tmp 31)⟩,
     ⟨(some 33), none, .act, .fieldAddr 1 (.tmp 6)⟩,
     ⟨(some 34), none, .act, .load false 1 (.tmp 33)⟩,
     ⟨(some 35), none, .act, .len (.tmp 34)⟩,
     ⟨(some 36), none, .act, .bin .add (.tmp 32) (.tmp 35)⟩,
     ⟨(some 37), none, .act, .bin .gtr (.tmp 36) (.const (.int .i64 60))⟩])
   (.cond (.tmp 37)
    (.seq (.region [
      ⟨(some 2), none, .act, .mv (.const (.bool false))⟩])
    .ret)
    .skip))))
  (.region [
    ⟨(some 38), none, .act, .bin .add (.tmp 26) (.const (.int .i64 1))⟩,
    ⟨(some 26), none, .act, .mv (.tmp 38)⟩]))))
def r5 : RCode :=
  (.seq (.region [
    ⟨(some 1), none, .act, .box (.tmp 0)⟩,
    ⟨(some 2), none, .act, .mv (.const (.bool false))⟩])
  (.seq (.seq (.region [
    ⟨(some 7), none, .act, .fieldAddr 4 (.tmp 1)⟩,
    ⟨(some 8), none, .act, .load false 1 (.tmp 7)⟩,
    ⟨(some 9), none, .act, .len (.tmp 8)⟩,
    ⟨(some 10), none, .act, .mv (.const (.int .i64 0))⟩])
  (.block 0
   (.loop r5l0)))
  (.seq (.seq (.region [
    ⟨(some 23), none, .act, .fieldAddr 2 (.tmp 1)⟩,
    ⟨(some 24), none, .act, .load false 1 (.tmp 23)⟩,
    ⟨(some 25), none, .act, .len (.tmp 24)⟩,
    ⟨(some 26), none, .act, .mv (.const (.int .i64 0))⟩])
  (.block 2
   (.loop r5l1)))
  (.seq (.region [
    ⟨(some 39), none, .act, .fieldAddr 4 (.tmp 1)⟩,
    ⟨(some 40), none, .act, .load false 1 (.tmp 39)⟩,
    ⟨(some 41), none, .act, .len (.tmp 40)⟩,
    ⟨(some 42), none, .act, .bin .leq (.tmp 41) (.const (.int .i64 6))⟩,
    ⟨(some 43), none, .act, .mv (.tmp 42)⟩,
    ⟨(some 44), (some (43, true)), .act, .fieldAddr 2 (.tmp 1)⟩,
    ⟨(some 45), (some (43, true)), .act, .load false 1 (.tmp 44)⟩,
    ⟨(some 46), (some (43, true)), .act, .len (.tmp 45)⟩,
    ⟨(some 47), (some (43, true)), .act, .bin .leq (.tmp 46) (.const (.int .i64 4))⟩,
    ⟨(some 48), none, .act, .pick (.tmp 43) (.tmp 47) (.const (.bool false))⟩,
    ⟨(some 49), none, .act, .mv (.tmp 48)⟩,
    ⟨(some 50), (some (49, true)), .act, .fieldAddr 5 (.tmp 1)⟩,
    ⟨(some 51), (some (49, true)), .act, .load false 1 (.tmp 50)⟩,
    ⟨(some 52), (some (49, true)), .act, .lenStr (.tmp 51)⟩,
    ⟨(some 53), (some (49, true)), .act, .bin .leq (.tmp 52) (.const (.int .i64 50))⟩,
    ⟨(some 54), none, .act, .pick (.tmp 49) (.tmp 53) (.const (.bool false))⟩,
    ⟨(some 55), none, .act, .mv (.tmp 54)⟩,
    ⟨(some 56), (some (55, true)), .act, .fieldAddr 6 (.tmp 1)⟩,
    ⟨(some 57), (some (55, true)), .act, .load true 5 (.tmp 56)⟩,
    ⟨(some 58), (some (55, true)), .act, .build [(.int .u64 0), (.int .u64 0), (.int .i64 0), (.int .u64 0), (.int .u64 0), (.bool false), (.int .u64 0), (.int .i64 0), (.int .i64 0), (.slice none 0 0), (.slice none 0 0), (.slice none 0 0), (.slice none 0 0), (.slice none 0 0), (.slice none 0 0), (.slice none 0 0), (.int .i64 0), (.string ⟨#[]⟩), (.slice none 0 0), (.int .i64 0), (.slice none 0 0)] [(16, 5, (.tmp 57))]⟩,
    ⟨(some 59), (some (55, true)), .act, .buildSl 21 [(.int .u64 0), (.int .u64 0), (.int .i64 0), (.int .u64 0), (.int .u64 0), (.bool false), (.int .u64 0), (.int .i64 0), (.int .i64 0), (.slice none 0 0), (.slice none 0 0), (.slice none 0 0), (.slice none 0 0), (.slice none 0 0), (.slice none 0 0), (.slice none 0 0), (.int .i64 0), (.string ⟨#[]⟩), (.slice none 0 0), (.int .i64 0), (.slice none 0 0)] 1 [(0, (.tmp 58))]⟩,
    ⟨(some 60), (some (55, true)), .act, .call 19 [(.tmp 59)]⟩,
    ⟨(some 61), none, .act, .pick (.tmp 55) (.tmp 60) (.const (.bool false))⟩,
    ⟨(some 2), none, .act, .mv (.tmp 61)⟩])
  .ret))))
theorem res5 : ∃ c, Tryz.f5.body = some c ∧ resCode Tryz.prog 62 c = some r5 := ⟨_, rfl, by kernel_rfl⟩
theorem rr5 : resRes Tryz.prog Tryz.f5.results.toList = some [.tmp 2] := by kernel_rfl
theorem writes_loop (l : List Write) (hl : l.length ≤ 9223372036854775807) (hs : ∀ c ∈ l, c.key.length ≤ 4611686018427387903 ∧ c.val.length ≤ 4611686018427387903) (h₀ : AHeap) (bb : Nat) (cs : List AV) (k : List RT) (a : AV)
    (hk : ∀ h, h₀.le h → h bb = some (.box cs) → RRun Tryz.prog Tryz.f5 62 k (Env.get [(1, a)]) h (QB h₀)) (m : Nat) :
    ∀ (i : Nat) (h : AHeap), i + m = l.length → h₀.le h → h bb = some (.box cs) →
      RRun Tryz.prog Tryz.f5 62 (.inLoop r5l0 :: .inBlock 0 :: k) (Env.get [(10, i64 i), (9, i64 (l.map Write.cells).length), (8, writesV l), (1, a)]) h (QB h₀) := by
  induction m with
  | zero =>
    intro i h hi hg hbb
    have hlen0 : (l.map Write.cells).length = l.length := by simp
    refine RRun.inLoop ?_
    repeat' (first | refine S.nilK ?_ | (refine S.op rfl ?_; first | ((first | refine S.lss rfl rfl ?_ ?_) <;> intro hlt <;> try (exfalso; omega))) | refine S.seq ?_ | refine S.region ?_ | refine S.condF rfl ?_ | refine RRun.exit rfl ?_)
    exact S.keep [1] rfl (hk h hg hbb)
  | succ m ih =>
    intro i h hi hg hbb
    have hie : i < l.length := by omega
    have h1 : (l.map Write.cells)[((i : Nat) : Int).toNat]? = some l[i].cells := by simp [hie]
    have hlen0 : (l.map Write.cells).length = l.length := by simp
    have h2 := hs l[i] (List.getElem_mem hie)
    have h3 := len_bytes l[i].key
    have h4 := len_bytes l[i].val
    refine RRun.inLoop ?_
    repeat' (first | refine S.nilK ?_ | (refine S.op rfl ?_; first | refine R.indexAddr rfl rfl (by omega) h1 ?_ | refine R.mv rfl ?_ | refine R.fieldAddr rfl ?_ | refine R.loadR rfl rfl ?_ | refine R.load (by decide) rfl (by (repeat' (first | exact AHeap.set_same _ _ _)); first | done | fail) rfl ?_ | refine S.addI rfl rfl (by omega) ?_ | refine R.len rfl ?_ | refine R.alloc rfl (fun b hb => ?_) | ((first | refine S.lss rfl rfl ?_ ?_ | refine S.gtr rfl rfl ?_ ?_) <;> intro hlt <;> try (exfalso; omega))) | (refine S.op0 rfl ?_; first | refine S.storeS rfl rfl rfl (by rfl) rfl (by first | decide | exact Nat.le_refl _ | exact Nat.le_of_ble_eq_true rfl) ?_) | refine S.seq ?_ | refine S.region ?_ | refine S.condT rfl ?_ | refine S.condF rfl ?_ | refine RRun.skip ?_ | refine RRun.block ?_ | refine RRun.inBlock ?_)
    ·
      apply S.ret rr5
      case hx => repeat (first | exact ResAt.nil | apply ResAt.tmp rfl)
      exact ⟨_, _, .refl _, hg.set _ (hg.none (by assumption)), _, rfl, rfl⟩
    · rw [show ((i : Int) + 1) = ((i + 1 : Nat) : Int) by omega]
      exact S.keep [10, 9, 8, 1] rfl (ih (i + 1) _ (by omega) (hg.set _ (hg.none (by assumption))) (by (repeat' (first | assumption | refine AHeap.get_fresh ‹_› ?_)); first | done | fail))
theorem spans_loop (l : List Span) (hl : l.length ≤ 9223372036854775807) (hs : ∀ c ∈ l, c.lo.length ≤ 4611686018427387903 ∧ c.hi.length ≤ 4611686018427387903) (h₀ : AHeap) (bb : Nat) (cs : List AV) (k : List RT) (a : AV)
    (hk : ∀ h, h₀.le h → h bb = some (.box cs) → RRun Tryz.prog Tryz.f5 62 k (Env.get [(1, a)]) h (QB h₀)) (m : Nat) :
    ∀ (i : Nat) (h : AHeap), i + m = l.length → h₀.le h → h bb = some (.box cs) →
      RRun Tryz.prog Tryz.f5 62 (.inLoop r5l1 :: .inBlock 2 :: k) (Env.get [(26, i64 i), (25, i64 (l.map Span.cells).length), (24, spansV l), (1, a)]) h (QB h₀) := by
  induction m with
  | zero =>
    intro i h hi hg hbb
    have hlen0 : (l.map Span.cells).length = l.length := by simp
    refine RRun.inLoop ?_
    repeat' (first | refine S.nilK ?_ | (refine S.op rfl ?_; first | ((first | refine S.lss rfl rfl ?_ ?_) <;> intro hlt <;> try (exfalso; omega))) | refine S.seq ?_ | refine S.region ?_ | refine S.condF rfl ?_ | refine RRun.exit rfl ?_)
    exact S.keep [1] rfl (hk h hg hbb)
  | succ m ih =>
    intro i h hi hg hbb
    have hie : i < l.length := by omega
    have h1 : (l.map Span.cells)[((i : Nat) : Int).toNat]? = some l[i].cells := by simp [hie]
    have hlen0 : (l.map Span.cells).length = l.length := by simp
    have h2 := hs l[i] (List.getElem_mem hie)
    have h3 := len_bytes l[i].lo
    have h4 := len_bytes l[i].hi
    refine RRun.inLoop ?_
    repeat' (first | refine S.nilK ?_ | (refine S.op rfl ?_; first | refine R.indexAddr rfl rfl (by omega) h1 ?_ | refine R.mv rfl ?_ | refine R.fieldAddr rfl ?_ | refine R.loadR rfl rfl ?_ | refine R.load (by decide) rfl (by (repeat' (first | exact AHeap.set_same _ _ _)); first | done | fail) rfl ?_ | refine S.addI rfl rfl (by omega) ?_ | refine R.len rfl ?_ | refine R.alloc rfl (fun b hb => ?_) | ((first | refine S.lss rfl rfl ?_ ?_ | refine S.gtr rfl rfl ?_ ?_) <;> intro hlt <;> try (exfalso; omega))) | (refine S.op0 rfl ?_; first | refine S.storeS rfl rfl rfl (by rfl) rfl (by first | decide | exact Nat.le_refl _ | exact Nat.le_of_ble_eq_true rfl) ?_) | refine S.seq ?_ | refine S.region ?_ | refine S.condT rfl ?_ | refine S.condF rfl ?_ | refine RRun.skip ?_ | refine RRun.block ?_ | refine RRun.inBlock ?_)
    ·
      apply S.ret rr5
      case hx => repeat (first | exact ResAt.nil | apply ResAt.tmp rfl)
      exact ⟨_, _, .refl _, hg.set _ (hg.none (by assumption)), _, rfl, rfl⟩
    · rw [show ((i : Int) + 1) = ((i + 1 : Nat) : Int) by omega]
      exact S.keep [26, 25, 24, 1] rfl (ih (i + 1) _ (by omega) (hg.set _ (hg.none (by assumption))) (by (repeat' (first | assumption | refine AHeap.get_fresh ‹_› ?_)); first | done | fail))
structure Ask.Ok (a : Ask) : Prop where
  w : a.writes.length ≤ 9223372036854775807
  wb : ∀ c ∈ a.writes, c.key.length ≤ 4611686018427387903 ∧ c.val.length ≤ 4611686018427387903
  s : a.spans.length ≤ 9223372036854775807
  sb : ∀ c ∈ a.spans, c.lo.length ≤ 4611686018427387903 ∧ c.hi.length ≤ 4611686018427387903
  n : a.name.length ≤ 9223372036854775807
  c : a.table.cols.length ≤ 9223372036854775807
  cb : ∀ c ∈ a.table.cols, c.name.length ≤ 9223372036854775807
  tn : a.table.name.length ≤ 9223372036854775807
  ti : a.table.idx.length ≤ 9223372036854775807
theorem small5_spec (a : Ask) (ha : a.Ok) (h : AHeap) : ACalls Tryz.prog 5 [.ag a.cells] h (fun x h' => ∃ b, x = bl b ∧ h' = h) := by
  obtain ⟨g1, g2, g3, g4, g5, g6, g7, g8, g9⟩ := ha
  have hl1 : (a.writes.map Write.cells).length = a.writes.length := by simp
  have hl2 : (a.spans.map Span.cells).length = a.spans.length := by simp
  have c19 := small19_spec a.table g6 g7 g8 g9
  obtain ⟨c, hc1, hc2⟩ := res5
  refine ACalls.weak (ACalls.enter Tryz.func5 hc1 Tryz.ntmps5 hc2 (Nat.le_of_ble_eq_true rfl) rfl ?_)
  repeat' (first | ((show RRun Tryz.prog Tryz.f5 62 (.code (.loop r5l0) :: _) _ _ _; refine RRun.loopIn (S.keep [10, 9, 8, 1] rfl (writes_loop a.writes g1 g2 h _ _ _ _ (fun h7 hle7 hb7 => ?_) a.writes.length 0 _ (Nat.zero_add _) (by repeat (first | exact AHeap.le.refl _ | refine AHeap.le.set ?_ _ (by (repeat' (first | assumption)); first | done | fail))) (by (repeat' (first | exact AHeap.set_same _ _ _)); first | done | fail))))) | ((show RRun Tryz.prog Tryz.f5 62 (.code (.loop r5l1) :: _) _ _ _; refine RRun.loopIn (S.keep [26, 25, 24, 1] rfl (spans_loop a.spans g3 g4 h _ _ _ _ (fun h8 hle8 hb8 => ?_) a.spans.length 0 _ (Nat.zero_add _) (by first | assumption | exact (by repeat (fail))) (by (repeat' (first | assumption)); first | done | fail))))) | refine S.nilK ?_ | (refine S.op rfl ?_; first | refine R.mv rfl ?_ | refine R.fieldAddr rfl ?_ | refine R.load (by decide) rfl (by (repeat' (first | assumption | exact AHeap.set_same _ _ _)); first | done | fail) rfl ?_ | refine R.pickT rfl rfl ?_ | refine R.pickF rfl rfl ?_ | refine R.len rfl ?_ | refine R.lenStr rfl ?_ | refine R.box rfl rfl rfl (fun b hb => ?_) | refine R.build rfl rfl ?_ | refine R.buildSl rfl rfl rfl (by decide) ?_ | ((first | refine S.leq rfl rfl ?_ ?_) <;> intro hlt <;> try (exfalso; omega))) | refine S.skip rfl ?_ | refine S.seq ?_ | refine S.region ?_ | refine RRun.block ?_)
  any_goals
    refine S.op rfl ?_
    refine R.call rfl (show avs _ _ = some [.sl 21 [cmd a.table] .full] from rfl) (ACalls.mono (c19 _) ?_)
    rintro _ _ ⟨b9, rfl, rfl⟩
    repeat' (first | refine S.nilK ?_ | (refine S.op rfl ?_; first | refine R.mv rfl ?_ | refine R.pickT rfl rfl ?_))
  all_goals
    apply S.ret rr5
    case hx => repeat (first | exact ResAt.nil | apply ResAt.tmp rfl)
    exact ⟨_, _, .refl _, (by first | assumption | exact (by repeat (fail))), _, rfl, rfl⟩
end Go.Proofs.YtpgkpiodekdlnaaGreat

namespace Go.Proofs.YtpgkpiodekdlnaaGreat
open Go.Av
def zCmd : List AV := [zU, zU, zI, zU, zU, ff, zU, zI, zI, nilS, nilS, nilS, nilS, nilS, nilS, nilS, zI, noStr, nilS, zI, nilS]
def zRes : List AV := [zI, zU, zU, ff, nilS, nilS, nilS]
def zTold : List AV := [zI, nilS, nilS, zU]
theorem ok_nil (h : AHeap) : ACalls Tryz.prog 20 [nilP] h (fun x h' => x = ff ∧ h' = h) := by
  obtain ⟨c, hc1, hc2⟩ := res20
  refine ACalls.weak (ACalls.enter Tryz.func20 hc1 Tryz.ntmps20 hc2 (Nat.le_of_ble_eq_true rfl) rfl ?_)
  repeat' (first | refine S.nilK ?_ | (refine S.op rfl ?_; first | refine R.mv rfl ?_ | refine R.pickF rfl rfl ?_ | refine R.eqPtrNil rfl rfl ?_) | refine S.skip rfl ?_ | refine S.seq ?_ | refine S.region ?_)
  all_goals
    apply S.ret rr20
    case hx => repeat (first | exact ResAt.nil | apply ResAt.tmp rfl)
    exact ⟨_, _, .refl _, (by repeat (first | exact AHeap.le.refl _)), rfl, rfl⟩
theorem nil6 (i : UInt64) (h : AHeap) : ACalls Tryz.prog 6 [nilP, u64 i, .ag zRes] h (fun x h' => x = .tu [] ∧ h' = h) := by
  obtain ⟨c, hc1, hc2⟩ := res6
  refine ACalls.weak (ACalls.enter Tryz.func6 hc1 Tryz.ntmps6 hc2 (Nat.le_of_ble_eq_true rfl) rfl ?_)
  repeat' (first | refine S.nilK ?_ | (refine S.op rfl ?_; first | refine R.callQ (by decide) rfl (ok_nil _) ?_ | refine R.mv rfl ?_ | refine R.pickT rfl rfl ?_ | refine R.not rfl ?_ | refine R.box rfl rfl rfl (fun b hb => ?_)) | refine S.skip rfl ?_ | refine S.seq ?_ | refine S.region ?_ | refine S.condT rfl ?_)
  all_goals
    apply S.ret rr6
    case hx => repeat (first | exact ResAt.nil)
    exact ⟨_, _, .refl _, (by repeat (first | exact AHeap.le.refl _ | refine AHeap.le.set ?_ _ (by (repeat' (first | assumption)); first | done | fail))), rfl, rfl⟩
def r7 : RCode :=
  (.seq (.seq (.region [
    ⟨(some 5), none, .act, .mv (.tmp 0)⟩,
    ⟨(some 6), none, .act, .call 20 [(.tmp 5)]⟩,
    ⟨(some 7), none, .act, .un .not (.tmp 6)⟩,
    ⟨(some 8), none, .act, .mv (.tmp 7)⟩,
    ⟨(some 9), (some (8, false)), .act, .mv (.tmp 0)⟩,
    ⟨(some 10), (some (8, false)), .act, .nilCheck (.tmp 9)⟩,
    ⟨(some 11), (some (8, false)), .act, .fieldAddr 1 (.tmp 10)⟩,
    ⟨(some 12), (some (8, false)), .act, .load false 1 (.tmp 11)⟩,
    ⟨(some 13), (some (8, false)), .act, .mv (.tmp 1)⟩,
    ⟨(some 14), (some (8, false)), .act, .lookup 30 (.pointer none) (.tmp 12) (.tmp 13) false⟩,
    ⟨(some 15), (some (8, false)), .act, .eq false .ptr (.tmp 14) (.const (.pointer none))⟩,
    ⟨(some 16), none, .act, .pick (.tmp 8) (.const (.bool true)) (.tmp 15)⟩])
  (.cond (.tmp 16)
   .ret
   .skip))
  (.seq (.region [
    ⟨(some 17), none, .act, .mv (.tmp 0)⟩,
    ⟨(some 18), none, .act, .nilCheck (.tmp 17)⟩,
    ⟨(some 19), none, .act, .fieldAddr 1 (.tmp 18)⟩,
    ⟨(some 20), none, .act, .load false 1 (.tmp 19)⟩,
    ⟨(some 21), none, .act, .mv (.tmp 1)⟩,
    ⟨(some 22), none, .act, .lookup 30 (.pointer none) (.tmp 20) (.tmp 21) false⟩,
    ⟨(some 4), none, .act, .mv (.tmp 22)⟩])
  (.seq (.seq (.region [
    ⟨(some 23), none, .act, .mv (.tmp 4)⟩,
    ⟨(some 24), none, .act, .nilCheck (.tmp 23)⟩,
    ⟨(some 25), none, .act, .fieldAddr 19 (.tmp 24)⟩,
    ⟨(some 26), none, .act, .load false 1 (.tmp 25)⟩,
    ⟨(some 27), none, .act, .eq false .int (.tmp 26) (.const (.int .i64 13))⟩])
  (.cond (.tmp 27)
   (.region [
     ⟨(some 28), none, .act, .mv (.tmp 4)⟩,
     ⟨(some 29), none, .act, .mv (.tmp 4)⟩,
     ⟨(some 30), none, .act, .nilCheck (.tmp 28)⟩,
     ⟨(some 31), none, .act, .fieldAddr 6 (.tmp 30)⟩,
     ⟨none, none, .act, .store 1 (.tmp 31) (.const (.bool false))⟩,
     ⟨(some 32), none, .act, .nilCheck (.tmp 29)⟩,
     ⟨(some 33), none, .act, .fieldAddr 19 (.tmp 32)⟩,
     ⟨none, none, .act, .store 1 (.tmp 33) (.const (.int .i64 0))⟩])
   .skip))
  (.seq (.region [
    ⟨(some 34), none, .act, .mv (.tmp 4)⟩,
    ⟨(some 35), none, .act, .nilCheck (.tmp 34)⟩,
    ⟨(some 36), none, .act, .fieldAddr 6 (.tmp 35)⟩,
    ⟨(some 37), none, .act, .load false 1 (.tmp 36)⟩,
    ⟨(some 38), none, .act, .mv (.tmp 37)⟩,
    ⟨(some 39), (some (38, false)), .act, .mv (.tmp 4)⟩,
    ⟨(some 40), (some (38, false)), .act, .nilCheck (.tmp 39)⟩,
    ⟨(some 41), (some (38, false)), .act, .fieldAddr 0 (.tmp 40)⟩,
    ⟨(some 42), (some (38, false)), .act, .load false 1 (.tmp 41)⟩,
    ⟨(some 43), (some (38, false)), .act, .eq true .int (.tmp 42) (.const (.int .u64 0))⟩,
    ⟨(some 44), none, .act, .pick (.tmp 38) (.const (.bool true)) (.tmp 43)⟩])
  (.cond (.tmp 44)
   (.seq (.region [
     ⟨(some 45), none, .act, .mv (.tmp 4)⟩,
     ⟨(some 46), none, .act, .mv (.tmp 4)⟩,
     ⟨(some 47), none, .act, .nilCheck (.tmp 45)⟩,
     ⟨(some 48), none, .act, .fieldAddr 6 (.tmp 47)⟩,
     ⟨none, none, .act, .store 1 (.tmp 48) (.const (.bool true))⟩,
     ⟨(some 49), none, .act, .nilCheck (.tmp 46)⟩,
     ⟨(some 50), none, .act, .fieldAddr 7 (.tmp 49)⟩,
     ⟨none, none, .act, .store 1 (.tmp 50) (.const (.bool true))⟩])
   (.seq (.region [
     ⟨(some 51), none, .act, .mv (.tmp 4)⟩,
     ⟨(some 52), none, .act, .nilCheck (.tmp 51)⟩,
     ⟨(some 53), none, .act, .fieldAddr 25 (.tmp 52)⟩,
     ⟨(some 54), none, .act, .load false 1 (.tmp 53)⟩,
     ⟨(some 55), none, .act, .un .not (.tmp 54)⟩,
     ⟨(some 56), none, .act, .mv (.tmp 55)⟩,
     ⟨(some 57), (some (56, true)), .act, .mv (.tmp 4)⟩,
     ⟨(some 58), (some (56, true)), .act, .call 22 [(.tmp 57)]⟩,
     ⟨(some 59), (some (56, true)), .act, .un .not (.tmp 58)⟩,
     ⟨(some 60), none, .act, .pick (.tmp 56) (.tmp 59) (.const (.bool false))⟩])
   (.cond (.tmp 60)
    (.region [
      ⟨(some 61), none, .act, .mv (.tmp 0)⟩,
      ⟨(some 62), none, .act, .mv (.tmp 4)⟩,
      ⟨(some 63), none, .act, .call 23 [(.tmp 61), (.tmp 62)]⟩])
    .skip)))
   .skip)))))
theorem res7 : ∃ c, Tryz.f7.body = some c ∧ resCode Tryz.prog 64 c = some r7 := ⟨_, rfl, by kernel_rfl⟩
theorem rr7 : resRes Tryz.prog Tryz.f7.results.toList = some [] := by kernel_rfl
theorem nil7 (i : UInt64) (h : AHeap) : ACalls Tryz.prog 7 [nilP, u64 i] h (fun x h' => x = .tu [] ∧ h' = h) := by
  obtain ⟨c, hc1, hc2⟩ := res7
  refine ACalls.weak (ACalls.enter Tryz.func7 hc1 Tryz.ntmps7 hc2 (Nat.le_of_ble_eq_true rfl) rfl ?_)
  repeat' (first | refine S.nilK ?_ | (refine S.op rfl ?_; first | refine R.callQ (by decide) rfl (ok_nil _) ?_ | refine R.mv rfl ?_ | refine R.pickT rfl rfl ?_ | refine R.not rfl ?_) | refine S.skip rfl ?_ | refine S.seq ?_ | refine S.region ?_ | refine S.condT rfl ?_)
  all_goals
    apply S.ret rr7
    case hx => repeat (first | exact ResAt.nil)
    exact ⟨_, _, .refl _, (by repeat (first | exact AHeap.le.refl _)), rfl, rfl⟩
theorem nil8 (i : UInt64) (h : AHeap) : ACalls Tryz.prog 8 [nilP, u64 i] h (fun x h' => x = .tu [zI, .ag zCmd, ff] ∧ h' = h) := by
  obtain ⟨c, hc1, hc2⟩ := res8
  refine ACalls.weak (ACalls.enter Tryz.func8 hc1 Tryz.ntmps8 hc2 (Nat.le_of_ble_eq_true rfl) rfl ?_)
  repeat' (first | refine S.nilK ?_ | (refine S.op rfl ?_; first | refine R.callQ (by decide) rfl (ok_nil _) ?_ | refine R.mv rfl ?_ | refine R.pickT rfl rfl ?_ | refine R.not rfl ?_ | refine R.alloc rfl (fun b hb => ?_) | refine R.build rfl rfl ?_) | (refine S.op0 rfl ?_; first | refine S.storeS rfl rfl rfl (by rfl) rfl (by first | decide | exact Nat.le_refl _ | exact Nat.le_of_ble_eq_true rfl) ?_) | refine S.skip rfl ?_ | refine S.seq ?_ | refine S.region ?_ | refine S.condT rfl ?_)
  all_goals
    apply S.ret rr8
    case hx => repeat (first | exact ResAt.nil | apply ResAt.tmp rfl | apply ResAt.cellA rfl (by (repeat' (first | exact AHeap.set_same _ _ _)); first | done | fail) (by rfl))
    exact ⟨_, _, .refl _, (by repeat (first | exact AHeap.le.refl _ | refine AHeap.le.set ?_ _ (by (repeat' (first | assumption)); first | done | fail))), rfl, rfl⟩
theorem nil9 (i : UInt64) (h : AHeap) : ACalls Tryz.prog 9 [nilP, u64 i] h (fun x h' => x = .tu [.ag zTold, ff] ∧ h' = h) := by
  obtain ⟨c, hc1, hc2⟩ := res9
  refine ACalls.weak (ACalls.enter Tryz.func9 hc1 Tryz.ntmps9 hc2 (Nat.le_of_ble_eq_true rfl) rfl ?_)
  repeat' (first | refine S.nilK ?_ | (refine S.op rfl ?_; first | refine R.callQ (by decide) rfl (ok_nil _) ?_ | refine R.mv rfl ?_ | refine R.pickT rfl rfl ?_ | refine R.not rfl ?_ | refine R.alloc rfl (fun b hb => ?_) | refine R.build rfl rfl ?_) | (refine S.op0 rfl ?_; first | refine S.storeS rfl rfl rfl (by rfl) rfl (by first | decide | exact Nat.le_refl _ | exact Nat.le_of_ble_eq_true rfl) ?_) | refine S.skip rfl ?_ | refine S.seq ?_ | refine S.region ?_ | refine S.condT rfl ?_)
  all_goals
    apply S.ret rr9
    case hx => repeat (first | exact ResAt.nil | apply ResAt.tmp rfl | apply ResAt.cellA rfl (by (repeat' (first | exact AHeap.set_same _ _ _)); first | done | fail) (by rfl))
    exact ⟨_, _, .refl _, (by repeat (first | exact AHeap.le.refl _ | refine AHeap.le.set ?_ _ (by (repeat' (first | assumption)); first | done | fail))), rfl, rfl⟩
def r10 : RCode :=
  (.seq (.region [
    ⟨(some 4), none, .act, .mv (.const (.int .u64 0))⟩,
    ⟨(some 5), none, .act, .mv (.const (.int .i64 0))⟩])
  (.seq (.seq (.region [
    ⟨(some 6), none, .act, .mv (.tmp 0)⟩,
    ⟨(some 7), none, .act, .call 20 [(.tmp 6)]⟩,
    ⟨(some 8), none, .act, .un .not (.tmp 7)⟩,
    ⟨(some 9), none, .act, .mv (.tmp 8)⟩,
    ⟨(some 10), (some (9, false)), .act, .mv (.tmp 0)⟩,
    ⟨(some 11), (some (9, false)), .act, .nilCheck (.tmp 10)⟩,
    ⟨(some 12), (some (9, false)), .act, .fieldAddr 1 (.tmp 11)⟩,
    ⟨(some 13), (some (9, false)), .act, .load false 1 (.tmp 12)⟩,
    ⟨(some 14), (some (9, false)), .act, .mv (.tmp 1)⟩,
    ⟨(some 15), (some (9, false)), .act, .lookup 30 (.pointer none) (.tmp 13) (.tmp 14) false⟩,
    ⟨(some 16), (some (9, false)), .act, .eq false .ptr (.tmp 15) (.const (.pointer none))⟩,
    ⟨(some 17), none, .act, .pick (.tmp 9) (.const (.bool true)) (.tmp 16)⟩])
  (.cond (.tmp 17)
   (.seq (.region [
     ⟨(some 4), none, .act, .mv (.const (.int .u64 0))⟩,
     ⟨(some 5), none, .act, .mv (.const (.int .i64 0))⟩])
   .ret)
   .skip))
  (.seq (.region [
    ⟨(some 18), none, .pure, .mv (.tmp 0)⟩,
    ⟨(some 19), none, .pure, .nilCheck (.tmp 18)⟩,
    ⟨(some 20), none, .pure, .fieldAddr 1 (.tmp 19)⟩,
    ⟨(some 21), none, .read, .load false 1 (.tmp 20)⟩,
    ⟨(some 22), none, .pure, .mv (.tmp 1)⟩,
    ⟨(some 23), none, .read, .lookup 30 (.pointer none) (.tmp 21) (.tmp 22) false⟩,
    ⟨(some 24), none, .pure, .nilCheck (.tmp 23)⟩,
    ⟨(some 25), none, .pure, .fieldAddr 0 (.tmp 24)⟩,
    ⟨(some 26), none, .read, .load false 1 (.tmp 25)⟩,
    ⟨(some 27), none, .pure, .mv (.tmp 0)⟩,
    ⟨(some 28), none, .pure, .nilCheck (.tmp 27)⟩,
    ⟨(some 29), none, .pure, .fieldAddr 1 (.tmp 28)⟩,
    ⟨(some 30), none, .read, .load false 1 (.tmp 29)⟩,
    ⟨(some 31), none, .pure, .mv (.tmp 1)⟩,
    ⟨(some 32), none, .read, .lookup 30 (.pointer none) (.tmp 30) (.tmp 31) false⟩,
    ⟨(some 33), none, .pure, .nilCheck (.tmp 32)⟩,
    ⟨(some 34), none, .pure, .fieldAddr 1 (.tmp 33)⟩,
    ⟨(some 35), none, .read, .load false 1 (.tmp 34)⟩,
    ⟨(some 4), none, .pure, .mv (.tmp 26)⟩,
    ⟨(some 5), none, .pure, .mv (.tmp 35)⟩])
  .ret)))
theorem res10 : ∃ c, Tryz.f10.body = some c ∧ resCode Tryz.prog 36 c = some r10 := ⟨_, rfl, by kernel_rfl⟩
theorem rr10 : resRes Tryz.prog Tryz.f10.results.toList = some [.tmp 4, .tmp 5] := by kernel_rfl
theorem nil10 (i : UInt64) (h : AHeap) : ACalls Tryz.prog 10 [nilP, u64 i] h (fun x h' => x = .tu [zU, zI] ∧ h' = h) := by
  obtain ⟨c, hc1, hc2⟩ := res10
  refine ACalls.weak (ACalls.enter Tryz.func10 hc1 Tryz.ntmps10 hc2 (Nat.le_of_ble_eq_true rfl) rfl ?_)
  repeat' (first | refine S.nilK ?_ | (refine S.op rfl ?_; first | refine R.callQ (by decide) rfl (ok_nil _) ?_ | refine R.mv rfl ?_ | refine R.pickT rfl rfl ?_ | refine R.not rfl ?_) | refine S.skip rfl ?_ | refine S.seq ?_ | refine S.region ?_ | refine S.condT rfl ?_)
  all_goals
    apply S.ret rr10
    case hx => repeat (first | exact ResAt.nil | apply ResAt.tmp rfl)
    exact ⟨_, _, .refl _, (by repeat (first | exact AHeap.le.refl _)), rfl, rfl⟩
theorem nil12 (i : UInt64) (a : Ask) (h : AHeap) : ACalls Tryz.prog 12 [nilP, u64 i, .ag a.cells] h (fun x h' => x = eRange ∧ h' = h) := by
  obtain ⟨c, hc1, hc2⟩ := res12
  refine ACalls.weak (ACalls.enter Tryz.func12 hc1 Tryz.ntmps12 hc2 (Nat.le_of_ble_eq_true rfl) rfl ?_)
  repeat' (first | refine S.nilK ?_ | (refine S.op rfl ?_; first | refine R.callQ (by decide) rfl (ok_nil _) ?_ | refine R.mv rfl ?_ | refine R.not rfl ?_ | refine R.box rfl rfl rfl (fun b hb => ?_)) | refine S.seq ?_ | refine S.region ?_ | refine S.condT rfl ?_ | refine RRun.block ?_)
  all_goals
    apply S.ret rr12
    case hx => repeat (first | exact ResAt.nil | apply ResAt.tmp rfl)
    exact ⟨_, _, .refl _, (by repeat (first | exact AHeap.le.refl _ | refine AHeap.le.set ?_ _ (by (repeat' (first | assumption)); first | done | fail))), rfl, rfl⟩
def r13l0 : RCode :=
  (.seq (.region [
    ⟨(some 16), none, .act, .bin .lss (.tmp 15) (.tmp 14)⟩])
  (.seq (.cond (.tmp 16)
   .skip
   (.exit 0))
  (.seq (.block 1
   (.seq (.region [
     ⟨(some 17), none, .act, .mv (.tmp 15)⟩,
     ⟨(some 4), none, .act, .mv (.tmp 17)⟩])
   (.seq (.region [
     ⟨(some 18), none, .pure, .mv (.tmp 3)⟩,
     ⟨(some 19), none, .pure, .mv (.tmp 4)⟩,
     ⟨(some 20), none, .pure, .mv (.tmp 3)⟩,
     ⟨(some 21), none, .pure, .mv (.tmp 4)⟩,
     ⟨(some 22), none, .pure, .mv (.tmp 3)⟩,
     ⟨(some 23), none, .pure, .mv (.tmp 4)⟩,
     ⟨(some 24), none, .pure, .indexAddr 8 (.tmp 22) (.tmp 23)⟩,
     ⟨(some 25), none, .pure, .fieldAddr 7 (.tmp 24)⟩,
     ⟨(some 26), none, .read, .load false 1 (.tmp 25)⟩,
     ⟨(some 27), none, .read, .call 32 [(.tmp 26)]⟩,
     ⟨(some 28), none, .pure, .mv (.tmp 3)⟩,
     ⟨(some 29), none, .pure, .mv (.tmp 4)⟩,
     ⟨(some 30), none, .pure, .indexAddr 8 (.tmp 28) (.tmp 29)⟩,
     ⟨(some 31), none, .pure, .fieldAddr 6 (.tmp 30)⟩,
     ⟨(some 32), none, .read, .load false 1 (.tmp 31)⟩,
     ⟨(some 33), none, .act, .call 33 [(.tmp 32)]⟩,
     ⟨(some 34), none, .pure, .indexAddr 8 (.tmp 18) (.tmp 19)⟩,
     ⟨(some 35), none, .pure, .fieldAddr 7 (.tmp 34)⟩,
     ⟨none, none, .act, .store 1 (.tmp 35) (.tmp 27)⟩,
     ⟨(some 36), none, .pure, .indexAddr 8 (.tmp 20) (.tmp 21)⟩,
     ⟨(some 37), none, .pure, .fieldAddr 6 (.tmp 36)⟩,
     ⟨none, none, .act, .store 1 (.tmp 37) (.tmp 33)⟩])
   (.region [
     ⟨(some 38), none, .pure, .mv (.tmp 3)⟩,
     ⟨(some 39), none, .pure, .mv (.tmp 4)⟩,
     ⟨(some 40), none, .pure, .mv (.tmp 3)⟩,
     ⟨(some 41), none, .pure, .mv (.tmp 4)⟩,
     ⟨(some 42), none, .pure, .indexAddr 8 (.tmp 40) (.tmp 41)⟩,
     ⟨(some 43), none, .pure, .fieldAddr 4 (.tmp 42)⟩,
     ⟨(some 44), none, .pure, .fieldAddr 0 (.tmp 43)⟩,
     ⟨(some 45), none, .read, .load false 1 (.tmp 44)⟩,
     ⟨(some 46), none, .read, .call 34 [(.tmp 45)]⟩,
     ⟨(some 47), none, .pure, .mv (.tmp 3)⟩,
     ⟨(some 48), none, .pure, .mv (.tmp 4)⟩,
     ⟨(some 49), none, .pure, .indexAddr 8 (.tmp 47) (.tmp 48)⟩,
     ⟨(some 50), none, .pure, .fieldAddr 4 (.tmp 49)⟩,
     ⟨(some 51), none, .pure, .fieldAddr 1 (.tmp 50)⟩,
     ⟨(some 52), none, .read, .load false 1 (.tmp 51)⟩,
     ⟨(some 53), none, .act, .call 34 [(.tmp 52)]⟩,
     ⟨(some 54), none, .pure, .build [(.slice none 0 0), (.slice none 0 0)] [(0, 1, (.tmp 46)), (1, 1, (.tmp 53))]⟩,
     ⟨(some 55), none, .pure, .indexAddr 8 (.tmp 38) (.tmp 39)⟩,
     ⟨(some 56), none, .pure, .fieldAddr 4 (.tmp 55)⟩,
     ⟨none, none, .act, .store 2 (.tmp 56) (.tmp 54)⟩]))))
  (.region [
    ⟨(some 57), none, .act, .bin .add (.tmp 15) (.const (.int .i64 1))⟩,
    ⟨(some 15), none, .act, .mv (.tmp 57)⟩]))))
def r13 : RCode :=
  (.seq (.region [
    ⟨(some 2), none, .act, .mv (.const (.slice none 0 0))⟩])
  (.seq (.seq (.region [
    ⟨(some 5), none, .act, .mv (.tmp 0)⟩,
    ⟨(some 6), none, .act, .call 20 [(.tmp 5)]⟩,
    ⟨(some 7), none, .act, .un .not (.tmp 6)⟩])
  (.cond (.tmp 7)
   (.seq (.region [
     ⟨(some 2), none, .act, .mv (.const (.slice none 0 0))⟩])
   .ret)
   .skip))
  (.seq (.region [
    ⟨(some 8), none, .act, .mv (.tmp 0)⟩,
    ⟨(some 9), none, .act, .nilCheck (.tmp 8)⟩,
    ⟨(some 10), none, .act, .fieldAddr 2 (.tmp 9)⟩,
    ⟨(some 11), none, .act, .load false 1 (.tmp 10)⟩,
    ⟨(some 12), none, .act, .call 31 [(.tmp 11)]⟩,
    ⟨(some 3), none, .act, .mv (.tmp 12)⟩])
  (.seq (.seq (.region [
    ⟨(some 13), none, .act, .mv (.tmp 3)⟩,
    ⟨(some 14), none, .act, .len (.tmp 13)⟩,
    ⟨(some 15), none, .act, .mv (.const (.int .i64 0))⟩])
  (.block 0
   (.loop r13l0)))
  (.seq (.region [
    ⟨(some 58), none, .act, .mv (.tmp 3)⟩,
    ⟨(some 2), none, .act, .mv (.tmp 58)⟩])
  .ret)))))
theorem res13 : ∃ c, Tryz.f13.body = some c ∧ resCode Tryz.prog 59 c = some r13 := ⟨_, rfl, by kernel_rfl⟩
theorem rr13 : resRes Tryz.prog Tryz.f13.results.toList = some [.tmp 2] := by kernel_rfl
theorem nil13 (h : AHeap) : ACalls Tryz.prog 13 [nilP] h (fun x h' => x = nilS ∧ h' = h) := by
  obtain ⟨c, hc1, hc2⟩ := res13
  refine ACalls.weak (ACalls.enter Tryz.func13 hc1 Tryz.ntmps13 hc2 (Nat.le_of_ble_eq_true rfl) rfl ?_)
  repeat' (first | refine S.nilK ?_ | (refine S.op rfl ?_; first | refine R.callQ (by decide) rfl (ok_nil _) ?_ | refine R.mv rfl ?_ | refine R.not rfl ?_) | refine S.seq ?_ | refine S.region ?_ | refine S.condT rfl ?_)
  all_goals
    apply S.ret rr13
    case hx => repeat (first | exact ResAt.nil | apply ResAt.tmp rfl)
    exact ⟨_, _, .refl _, (by repeat (first | exact AHeap.le.refl _)), rfl, rfl⟩
theorem nil14 (h : AHeap) : ACalls Tryz.prog 14 [nilP] h (fun x h' => x = nilP ∧ h' = h) := by
  obtain ⟨c, hc1, hc2⟩ := res14
  refine ACalls.weak (ACalls.enter Tryz.func14 hc1 Tryz.ntmps14 hc2 (Nat.le_of_ble_eq_true rfl) rfl ?_)
  repeat' (first | refine S.nilK ?_ | (refine S.op rfl ?_; first | refine R.mv rfl ?_ | refine R.eqPtrNil rfl rfl ?_) | refine S.seq ?_ | refine S.region ?_ | refine S.condT rfl ?_)
  all_goals
    apply S.ret rr14
    case hx => repeat (first | exact ResAt.nil | apply ResAt.tmp rfl)
    exact ⟨_, _, .refl _, (by repeat (first | exact AHeap.le.refl _)), rfl, rfl⟩
def r15 : RCode :=
  (.seq (.region [
    ⟨(some 2), none, .act, .mv (.const (.pointer none))⟩])
  (.seq (.seq (.region [
    ⟨(some 3), none, .act, .mv (.tmp 0)⟩,
    ⟨(some 4), none, .act, .eq false .ptr (.tmp 3) (.const (.pointer none))⟩])
  (.cond (.tmp 4)
   (.seq (.region [
     ⟨(some 2), none, .act, .mv (.const (.pointer none))⟩])
   .ret)
   .skip))
  (.seq (.region [
    ⟨(some 5), none, .act, .mv (.tmp 0)⟩,
    ⟨(some 6), none, .act, .nilCheck (.tmp 5)⟩,
    ⟨(some 7), none, .act, .fieldAddr 1 (.tmp 6)⟩,
    ⟨(some 8), none, .act, .load false 1 (.tmp 7)⟩,
    ⟨(some 2), none, .act, .mv (.tmp 8)⟩])
  .ret)))
theorem res15 : ∃ c, Tryz.f15.body = some c ∧ resCode Tryz.prog 9 c = some r15 := ⟨_, rfl, by kernel_rfl⟩
theorem rr15 : resRes Tryz.prog Tryz.f15.results.toList = some [.tmp 2] := by kernel_rfl
theorem nil15 (h : AHeap) : ACalls Tryz.prog 15 [nilP] h (fun x h' => x = nilP ∧ h' = h) := by
  obtain ⟨c, hc1, hc2⟩ := res15
  refine ACalls.weak (ACalls.enter Tryz.func15 hc1 Tryz.ntmps15 hc2 (Nat.le_of_ble_eq_true rfl) rfl ?_)
  repeat' (first | refine S.nilK ?_ | (refine S.op rfl ?_; first | refine R.mv rfl ?_ | refine R.eqPtrNil rfl rfl ?_) | refine S.seq ?_ | refine S.region ?_ | refine S.condT rfl ?_)
  all_goals
    apply S.ret rr15
    case hx => repeat (first | exact ResAt.nil | apply ResAt.tmp rfl)
    exact ⟨_, _, .refl _, (by repeat (first | exact AHeap.le.refl _)), rfl, rfl⟩
def r16 : RCode :=
  (.seq (.region [
    ⟨(some 4), none, .act, .mv (.const (.pointer none))⟩])
  (.seq (.seq (.region [
    ⟨(some 5), none, .act, .mv (.tmp 0)⟩,
    ⟨(some 6), none, .act, .eq false .ptr (.tmp 5) (.const (.pointer none))⟩,
    ⟨(some 7), none, .act, .mv (.tmp 6)⟩,
    ⟨(some 8), (some (7, false)), .act, .mv (.tmp 1)⟩,
    ⟨(some 9), (some (7, false)), .act, .bin .lss (.tmp 8) (.const (.int .i64 0))⟩,
    ⟨(some 10), none, .act, .pick (.tmp 7) (.const (.bool true)) (.tmp 9)⟩,
    ⟨(some 11), none, .act, .mv (.tmp 10)⟩,
    ⟨(some 12), (some (11, false)), .act, .mv (.tmp 1)⟩,
    ⟨(some 13), (some (11, false)), .act, .mv (.tmp 0)⟩,
    ⟨(some 14), (some (11, false)), .act, .nilCheck (.tmp 13)⟩,
    ⟨(some 15), (some (11, false)), .act, .fieldAddr 2 (.tmp 14)⟩,
    ⟨(some 16), (some (11, false)), .act, .load false 1 (.tmp 15)⟩,
    ⟨(some 17), (some (11, false)), .act, .len (.tmp 16)⟩,
    ⟨(some 18), (some (11, false)), .act, .bin .geq (.tmp 12) (.tmp 17)⟩,
    ⟨(some 19), none, .act, .pick (.tmp 11) (.const (.bool true)) (.tmp 18)⟩])
  (.cond (.tmp 19)
   (.seq (.region [
     ⟨(some 4), none, .act, .mv (.const (.pointer none))⟩])
   .ret)
   .skip))
  (.seq (.region [
    ⟨(some 20), none, .act, .mv (.tmp 0)⟩,
    ⟨(some 21), none, .act, .nilCheck (.tmp 20)⟩,
    ⟨(some 22), none, .act, .fieldAddr 2 (.tmp 21)⟩,
    ⟨(some 23), none, .act, .load false 1 (.tmp 22)⟩,
    ⟨(some 24), none, .act, .mv (.tmp 1)⟩,
    ⟨(some 25), none, .act, .indexAddr 1 (.tmp 23) (.tmp 24)⟩,
    ⟨(some 26), none, .act, .load false 1 (.tmp 25)⟩,
    ⟨(some 4), none, .act, .mv (.tmp 26)⟩])
  .ret)))
theorem res16 : ∃ c, Tryz.f16.body = some c ∧ resCode Tryz.prog 27 c = some r16 := ⟨_, rfl, by kernel_rfl⟩
theorem rr16 : resRes Tryz.prog Tryz.f16.results.toList = some [.tmp 4] := by kernel_rfl
theorem nil16 (h : AHeap) : ACalls Tryz.prog 16 [nilP, zI] h (fun x h' => x = nilP ∧ h' = h) := by
  obtain ⟨c, hc1, hc2⟩ := res16
  refine ACalls.weak (ACalls.enter Tryz.func16 hc1 Tryz.ntmps16 hc2 (Nat.le_of_ble_eq_true rfl) rfl ?_)
  repeat' (first | refine S.nilK ?_ | (refine S.op rfl ?_; first | refine R.mv rfl ?_ | refine R.pickT rfl rfl ?_ | refine R.eqPtrNil rfl rfl ?_) | refine S.skip rfl ?_ | refine S.seq ?_ | refine S.region ?_ | refine S.condT rfl ?_)
  all_goals
    apply S.ret rr16
    case hx => repeat (first | exact ResAt.nil | apply ResAt.tmp rfl)
    exact ⟨_, _, .refl _, (by repeat (first | exact AHeap.le.refl _)), rfl, rfl⟩
theorem nil17 (i : UInt64) (h : AHeap) : ACalls Tryz.prog 17 [nilP, u64 i] h (fun x h' => x = ff ∧ h' = h) := by
  obtain ⟨c, hc1, hc2⟩ := res17
  refine ACalls.weak (ACalls.enter Tryz.func17 hc1 Tryz.ntmps17 hc2 (Nat.le_of_ble_eq_true rfl) rfl ?_)
  repeat' (first | refine S.nilK ?_ | (refine S.op rfl ?_; first | refine R.callQ (by decide) rfl (nil14 _) ?_ | refine R.callQ (by decide) rfl (nil8 i _) ?_ | refine R.mv rfl ?_ | refine R.extract rfl rfl ?_ | refine R.alloc rfl (fun b hb => ?_)) | (refine S.op0 rfl ?_; first | refine S.storeS rfl rfl rfl (by rfl) rfl (by first | decide | exact Nat.le_refl _ | exact Nat.le_of_ble_eq_true rfl) ?_) | refine S.seq ?_ | refine S.region ?_ | refine S.condF rfl ?_ | refine RRun.skip ?_)
  all_goals
    apply S.ret rr17
    case hx => repeat (first | exact ResAt.nil | apply ResAt.tmp rfl)
    exact ⟨_, _, .refl _, (by repeat (first | exact AHeap.le.refl _ | refine AHeap.le.set ?_ _ (by (repeat' (first | assumption)); first | done | fail))), rfl, rfl⟩
theorem nil11 (i : UInt64) (a : Ask) (h : AHeap) : ACalls Tryz.prog 11 [nilP, u64 i, .ag a.cells] h (fun x h' => x = .tu [.ag [eRange, nilS, nilS, zU], .v (.bool true)] ∧ h' = h) := by
  obtain ⟨c, hc1, hc2⟩ := res11
  refine ACalls.weak (ACalls.enter Tryz.func11 hc1 Tryz.ntmps11 hc2 (Nat.le_of_ble_eq_true rfl) rfl ?_)
  repeat' (first | refine S.nilK ?_ | (refine S.op rfl ?_; first | refine R.callQ (by decide) rfl (nil14 _) ?_ | refine R.callQ (by decide) rfl (nil12 i a _) ?_ | refine R.mv rfl ?_ | refine R.load (by decide) rfl (by (repeat' (first | exact AHeap.set_same _ _ _ | refine AHeap.get_fresh ‹_› ?_)); first | done | fail) rfl ?_ | refine R.alloc rfl (fun b hb => ?_) | refine R.box rfl rfl rfl (fun b hb => ?_) | refine R.build rfl rfl ?_ | ((first | refine S.eqInt rfl rfl ?_ ?_) <;> intro hlt <;> try (exfalso; omega))) | (refine S.op0 rfl ?_; first | refine S.storeS rfl rfl rfl (by rfl) rfl (by first | decide | exact Nat.le_refl _ | exact Nat.le_of_ble_eq_true rfl) ?_) | refine S.seq ?_ | refine S.region ?_ | refine S.regionT ?_ | refine S.talt ?_ ?_ | exact S.tstop | refine S.condT rfl ?_)
  all_goals
    apply S.ret rr11
    case hx => repeat (first | exact ResAt.nil | apply ResAt.tmp rfl | apply ResAt.cellA rfl (by (repeat' (first | exact AHeap.set_same _ _ _)); first | done | fail) (by rfl))
    exact ⟨_, _, .refl _, (by repeat (first | exact AHeap.le.refl _ | refine AHeap.le.set ?_ _ (by (repeat' (first | assumption | exact AHeap.z1 ‹_›)); first | done | fail))), rfl, rfl⟩
def r3 : RCode :=
  (.seq (.region [
    ⟨(some 2), none, .act, .box (.tmp 0)⟩,
    ⟨(some 4), none, .act, .mv (.const (.bool false))⟩])
  (.seq (.seq (.region [
    ⟨(some 16), none, .act, .call 4 []⟩,
    ⟨(some 17), none, .act, .un .not (.tmp 16)⟩])
  (.cond (.tmp 17)
   (.seq (.region [
     ⟨(some 4), none, .act, .mv (.const (.bool false))⟩])
   .ret)
   .skip))
  (.seq (.seq (.region [
    ⟨(some 18), none, .act, .load true 11 (.tmp 2)⟩,
    ⟨(some 19), none, .act, .call 5 [(.tmp 18)]⟩,
    ⟨(some 20), none, .act, .un .not (.tmp 19)⟩])
  (.cond (.tmp 20)
   (.seq (.region [
     ⟨(some 4), none, .act, .mv (.const (.bool true))⟩])
   .ret)
   .skip))
  (.seq (.region [
    ⟨(some 5), none, .act, .mv (.const (.pointer none))⟩])
  (.seq (.region [
    ⟨(some 6), none, .act, .mv (.const (.pointer none))⟩])
  (.seq (.region [
    ⟨(some 21), none, .act, .mv (.tmp 5)⟩,
    ⟨(some 22), none, .act, .mv (.tmp 1)⟩,
    ⟨(some 23), none, .act, .build [(.int .i64 0), (.int .u64 0), (.int .u64 0), (.bool false), (.slice none 0 0), (.slice none 0 0), (.slice none 0 0)] []⟩,
    ⟨(some 24), none, .act, .call 6 [(.tmp 21), (.tmp 22), (.tmp 23)]⟩])
  (.seq (.region [
    ⟨(some 25), none, .act, .mv (.tmp 5)⟩,
    ⟨(some 26), none, .act, .mv (.tmp 1)⟩,
    ⟨(some 27), none, .act, .call 7 [(.tmp 25), (.tmp 26)]⟩])
  (.seq (.region [
    ⟨(some 29), none, .act, .mv (.tmp 5)⟩,
    ⟨(some 30), none, .act, .mv (.tmp 1)⟩,
    ⟨(some 31), none, .act, .call 8 [(.tmp 29), (.tmp 30)]⟩,
    ⟨(some 28), none, .act, .mv (.tmp 31)⟩,
    ⟨(some 32), none, .act, .extract (.tmp 28) 0⟩,
    ⟨(some 33), none, .act, .extract (.tmp 28) 1⟩,
    ⟨(some 34), none, .act, .extract (.tmp 28) 2⟩,
    ⟨(some 8), none, .act, .alloc [(.int .u64 0), (.int .u64 0), (.int .i64 0), (.int .u64 0), (.int .u64 0), (.bool false), (.int .u64 0), (.int .i64 0), (.int .i64 0), (.slice none 0 0), (.slice none 0 0), (.slice none 0 0), (.slice none 0 0), (.slice none 0 0), (.slice none 0 0), (.slice none 0 0), (.int .i64 0), (.string ⟨#[]⟩), (.slice none 0 0), (.int .i64 0), (.slice none 0 0)]⟩,
    ⟨(some 7), none, .act, .mv (.tmp 32)⟩,
    ⟨none, none, .act, .store 21 (.tmp 8) (.tmp 33)⟩,
    ⟨(some 9), none, .act, .mv (.tmp 34)⟩])
  (.seq (.region [
    ⟨(some 36), none, .act, .mv (.tmp 5)⟩,
    ⟨(some 37), none, .act, .mv (.tmp 1)⟩,
    ⟨(some 38), none, .act, .call 9 [(.tmp 36), (.tmp 37)]⟩,
    ⟨(some 35), none, .act, .mv (.tmp 38)⟩,
    ⟨(some 39), none, .act, .extract (.tmp 35) 0⟩,
    ⟨(some 40), none, .act, .extract (.tmp 35) 1⟩,
    ⟨(some 10), none, .act, .alloc [(.int .i64 0), (.slice none 0 0), (.slice none 0 0), (.int .u64 0)]⟩,
    ⟨none, none, .act, .store 4 (.tmp 10) (.tmp 39)⟩,
    ⟨(some 11), none, .act, .mv (.tmp 40)⟩])
  (.seq (.region [
    ⟨(some 42), none, .act, .mv (.tmp 5)⟩,
    ⟨(some 43), none, .act, .mv (.tmp 1)⟩,
    ⟨(some 44), none, .act, .call 10 [(.tmp 42), (.tmp 43)]⟩,
    ⟨(some 41), none, .act, .mv (.tmp 44)⟩,
    ⟨(some 45), none, .act, .extract (.tmp 41) 0⟩,
    ⟨(some 46), none, .act, .extract (.tmp 41) 1⟩,
    ⟨(some 12), none, .act, .mv (.tmp 45)⟩,
    ⟨(some 13), none, .act, .mv (.tmp 46)⟩])
  (.seq (.region [
    ⟨(some 48), none, .act, .mv (.tmp 6)⟩,
    ⟨(some 49), none, .act, .mv (.tmp 1)⟩,
    ⟨(some 50), none, .act, .load true 11 (.tmp 2)⟩,
    ⟨(some 51), none, .act, .call 11 [(.tmp 48), (.tmp 49), (.tmp 50)]⟩,
    ⟨(some 47), none, .act, .mv (.tmp 51)⟩,
    ⟨(some 52), none, .act, .extract (.tmp 47) 0⟩,
    ⟨(some 53), none, .act, .extract (.tmp 47) 1⟩,
    ⟨(some 14), none, .act, .alloc [(.int .i64 0), (.slice none 0 0), (.slice none 0 0), (.int .u64 0)]⟩,
    ⟨none, none, .act, .store 4 (.tmp 14) (.tmp 52)⟩,
    ⟨(some 15), none, .act, .mv (.tmp 53)⟩])
  (.seq (.region [
    ⟨(some 54), none, .act, .mv (.tmp 5)⟩,
    ⟨(some 55), none, .act, .mv (.tmp 1)⟩,
    ⟨(some 56), none, .act, .load true 11 (.tmp 2)⟩,
    ⟨(some 57), none, .act, .call 12 [(.tmp 54), (.tmp 55), (.tmp 56)]⟩,
    ⟨(some 58), none, .act, .eq false .int (.tmp 57) (.const (.int .i64 1))⟩,
    ⟨(some 59), none, .act, .mv (.tmp 58)⟩,
    ⟨(some 60), (some (59, true)), .act, .mv (.tmp 9)⟩,
    ⟨(some 61), (some (59, true)), .act, .un .not (.tmp 60)⟩,
    ⟨(some 62), none, .act, .pick (.tmp 59) (.tmp 61) (.const (.bool false))⟩,
    ⟨(some 63), none, .act, .mv (.tmp 62)⟩,
    ⟨(some 64), (some (63, true)), .act, .mv (.tmp 11)⟩,
    ⟨(some 65), (some (63, true)), .act, .un .not (.tmp 64)⟩,
    ⟨(some 66), none, .act, .pick (.tmp 63) (.tmp 65) (.const (.bool false))⟩,
    ⟨(some 67), none, .act, .mv (.tmp 66)⟩,
    ⟨(some 68), (some (67, true)), .act, .mv (.tmp 12)⟩,
    ⟨(some 69), (some (67, true)), .act, .eq false .int (.tmp 68) (.const (.int .u64 0))⟩,
    ⟨(some 70), none, .act, .pick (.tmp 67) (.tmp 69) (.const (.bool false))⟩,
    ⟨(some 71), none, .act, .mv (.tmp 70)⟩,
    ⟨(some 72), (some (71, true)), .act, .mv (.tmp 5)⟩,
    ⟨(some 73), (some (71, true)), .act, .call 13 [(.tmp 72)]⟩,
    ⟨(some 74), (some (71, true)), .act, .len (.tmp 73)⟩,
    ⟨(some 75), (some (71, true)), .act, .eq false .int (.tmp 74) (.const (.int .i64 0))⟩,
    ⟨(some 76), none, .act, .pick (.tmp 71) (.tmp 75) (.const (.bool false))⟩,
    ⟨(some 77), none, .act, .mv (.tmp 76)⟩,
    ⟨(some 78), (some (77, true)), .act, .mv (.tmp 6)⟩,
    ⟨(some 79), (some (77, true)), .act, .call 14 [(.tmp 78)]⟩,
    ⟨(some 80), (some (77, true)), .act, .eq false .ptr (.tmp 79) (.const (.pointer none))⟩,
    ⟨(some 81), none, .act, .pick (.tmp 77) (.tmp 80) (.const (.bool false))⟩,
    ⟨(some 82), none, .act, .mv (.tmp 81)⟩,
    ⟨(some 83), (some (82, true)), .act, .mv (.tmp 6)⟩,
    ⟨(some 84), (some (82, true)), .act, .call 15 [(.tmp 83)]⟩,
    ⟨(some 85), (some (82, true)), .act, .eq false .ptr (.tmp 84) (.const (.pointer none))⟩,
    ⟨(some 86), none, .act, .pick (.tmp 82) (.tmp 85) (.const (.bool false))⟩,
    ⟨(some 87), none, .act, .mv (.tmp 86)⟩,
    ⟨(some 88), (some (87, true)), .act, .mv (.tmp 6)⟩,
    ⟨(some 89), (some (87, true)), .act, .call 16 [(.tmp 88), (.const (.int .i64 0))]⟩,
    ⟨(some 90), (some (87, true)), .act, .eq false .ptr (.tmp 89) (.const (.pointer none))⟩,
    ⟨(some 91), none, .act, .pick (.tmp 87) (.tmp 90) (.const (.bool false))⟩,
    ⟨(some 92), none, .act, .mv (.tmp 91)⟩,
    ⟨(some 93), (some (92, true)), .act, .mv (.tmp 6)⟩,
    ⟨(some 94), (some (92, true)), .act, .mv (.tmp 1)⟩,
    ⟨(some 95), (some (92, true)), .act, .call 17 [(.tmp 93), (.tmp 94)]⟩,
    ⟨(some 96), (some (92, true)), .act, .un .not (.tmp 95)⟩,
    ⟨(some 97), none, .act, .pick (.tmp 92) (.tmp 96) (.const (.bool false))⟩,
    ⟨(some 98), none, .act, .mv (.tmp 97)⟩,
    ⟨(some 99), (some (98, true)), .act, .fieldAddr 0 (.tmp 14)⟩,
    ⟨(some 100), (some (98, true)), .act, .load false 1 (.tmp 99)⟩,
    ⟨(some 101), (some (98, true)), .act, .eq false .int (.tmp 100) (.const (.int .i64 1))⟩,
    ⟨(some 102), none, .act, .pick (.tmp 98) (.tmp 101) (.const (.bool false))⟩,
    ⟨(some 4), none, .act, .mv (.tmp 102)⟩])
  .ret))))))))))))
theorem res3 : ∃ c, Tryz.f3.body = some c ∧ resCode Tryz.prog 103 c = some r3 := ⟨_, rfl, by kernel_rfl⟩
theorem rr3 : resRes Tryz.prog Tryz.f3.results.toList = some [.tmp 4] := by kernel_rfl
theorem none_spec (a : Ask) (ha : a.Ok) (i : UInt64) (h : AHeap) : ACalls Tryz.prog 3 [.ag a.cells, u64 i] h (fun x h' => x = bl true ∧ h' = h) := by
  obtain ⟨c, hc1, hc2⟩ := res3
  refine ACalls.weak (ACalls.enter Tryz.func3 hc1 Tryz.ntmps3 hc2 (Nat.le_of_ble_eq_true rfl) rfl ?_)
  repeat' (first | refine S.nilK ?_ | (refine S.op rfl ?_; first | refine R.callQ (by decide) rfl (awake_spec _) ?_ | refine R.mv rfl ?_ | refine R.load (by decide) rfl (by (repeat' (first | exact AHeap.set_same _ _ _)); first | done | fail) rfl ?_ | refine R.not rfl ?_ | refine R.box rfl rfl rfl (fun b hb => ?_)) | refine S.seq ?_ | refine S.region ?_ | refine S.condF rfl ?_ | refine RRun.skip ?_)
  refine S.op rfl (R.call rfl (show avs _ _ = some [.ag a.cells] from rfl) (ACalls.mono (small5_spec a ha _) ?_))
  rintro _ _ ⟨b, rfl, rfl⟩
  cases b with
  | false =>
    repeat' (first | refine S.nilK ?_ | (refine S.op rfl ?_; first | refine R.mv rfl ?_ | refine R.not rfl ?_) | refine S.seq ?_ | refine S.region ?_ | refine S.condT rfl ?_)
    apply S.ret rr3
    case hx => repeat (first | exact ResAt.nil | apply ResAt.tmp rfl)
    exact ⟨_, _, .refl _, (by repeat (first | exact AHeap.le.refl _ | refine AHeap.le.set ?_ _ (by (repeat' (first | assumption)); first | done | fail))), rfl, rfl⟩
  | true =>
    repeat' (first | refine S.nilK ?_ | (refine S.op rfl ?_; first | refine R.callQ (by decide) rfl (nil6 i _) ?_ | refine R.callQ (by decide) rfl (nil7 i _) ?_ | refine R.callQ (by decide) rfl (nil8 i _) ?_ | refine R.callQ (by decide) rfl (nil9 i _) ?_ | refine R.callQ (by decide) rfl (nil10 i _) ?_ | refine R.callQ (by decide) rfl (nil11 i a _) ?_ | refine R.callQ (by decide) rfl (nil12 i a _) ?_ | refine R.callQ (by decide) rfl (nil13 _) ?_ | refine R.callQ (by decide) rfl (nil14 _) ?_ | refine R.callQ (by decide) rfl (nil15 _) ?_ | refine R.callQ (by decide) rfl (nil16 _) ?_ | refine R.callQ (by decide) rfl (nil17 i _) ?_ | refine R.mv rfl ?_ | refine R.fieldAddr rfl ?_ | refine R.load (by decide) rfl (by (repeat' (first | exact AHeap.set_same _ _ _ | refine AHeap.get_fresh ‹_› ?_)); first | done | fail) rfl ?_ | refine R.pickT rfl rfl ?_ | refine R.lenA rfl ?_ | refine R.not rfl ?_ | refine R.eqPtrNil rfl rfl ?_ | refine R.extract rfl rfl ?_ | refine R.alloc rfl (fun b hb => ?_) | refine R.build rfl rfl ?_ | ((first | refine S.eqInt rfl rfl ?_ ?_) <;> intro hlt <;> try (exfalso; omega))) | (refine S.op0 rfl ?_; first | refine S.storeS rfl rfl rfl (by rfl) rfl (by first | decide | exact Nat.le_refl _ | exact Nat.le_of_ble_eq_true rfl) ?_) | refine S.seq ?_ | refine S.region ?_ | refine S.condF rfl ?_ | refine RRun.skip ?_)
    apply S.ret rr3
    case hx => repeat (first | exact ResAt.nil | apply ResAt.tmp rfl)
    exact ⟨_, _, .refl _, (by repeat (first | exact AHeap.le.refl _ | refine AHeap.le.set ?_ _ (by (repeat' (first | assumption | exact AHeap.z1 ‹_› | exact AHeap.z2 ‹_› | exact AHeap.z3 ‹_›)); first | done | fail))), rfl, rfl⟩
end Go.Proofs.YtpgkpiodekdlnaaGreat
