import Derived.Test.YtnmgamcmjjngcaaU11
import Derived.Test.YtnmgamcmjjngcaaT4
set_option linter.unusedVariables false
set_option linter.unusedSimpArgs false
namespace Go.Proofs.Ytnmgamcmjjngcaa
open Go.Av

theorem S.eqBoolSame {P : Program} {c : Cls} {E : AEnv} {h : AHeap} {K : AV → AHeap → Prop} {neg : Bool} {x y : Operand} {a : Bool} (hx : aev E x = some (.v (.bool a))) (hy : aev E y = some (.v (.bool a))) (hk : K (.v (.bool (!neg))) h) : ROpS P c (.eq neg .bool x y) E h K := by
  refine R.eqBool hx hy ?_
  cases neg <;> simpa using hk

def r23l0 : RCode :=
  (.seq (.region [
    ⟨(some 16), none, .act, .bin .lss (.tmp 15) (.tmp 14)⟩])
  (.seq (.cond (.tmp 16)
   .skip
   (.exit 0))
  (.seq (.block 1
   (.seq (.region [
     ⟨(some 17), none, .act, .mv (.tmp 15)⟩,
     ⟨(some 5), none, .act, .mv (.tmp 17)⟩])
   (.seq (.regionT (.step ⟨(some 18), none, .pure, .mv (.tmp 0)⟩ (.step ⟨(some 19), none, .pure, .mv (.tmp 5)⟩ (.step ⟨(some 20), none, .pure, .indexAddr 14 (.tmp 18) (.tmp 19)⟩ (.step ⟨(some 21), none, .pure, .load true 14 (.tmp 20)⟩ (.step ⟨(some 22), none, .pure, .mv (.tmp 1)⟩ (.step ⟨(some 23), none, .pure, .mv (.tmp 5)⟩ (.step ⟨(some 24), none, .pure, .indexAddr 14 (.tmp 22) (.tmp 23)⟩ (.step ⟨(some 25), none, .pure, .load true 14 (.tmp 24)⟩ (.alt ⟨(some 6), none, .act, .alloc [(.int .i64 0), (.int .u64 0), (.int .u64 0), (.int .u64 0), (.int .u64 0), (.int .u64 0), (.int .u64 0), (.int .u64 0), (.bool false), (.slice none 0 0), (.int .u64 0), (.int .u64 0), (.slice none 0 0), (.slice none 0 0)]⟩ (.alt ⟨(some 7), none, .act, .alloc [(.int .i64 0), (.int .u64 0), (.int .u64 0), (.int .u64 0), (.int .u64 0), (.int .u64 0), (.int .u64 0), (.int .u64 0), (.bool false), (.slice none 0 0), (.int .u64 0), (.int .u64 0), (.slice none 0 0), (.slice none 0 0)]⟩ (.alt ⟨none, none, .act, .store 14 (.tmp 6) (.tmp 21)⟩ (.alt ⟨none, none, .act, .store 14 (.tmp 7) (.tmp 25)⟩ .done
    .stop)
    .stop)
    .stop)
    (.alt ⟨(some 7), none, .act, .alloc [(.int .i64 0), (.int .u64 0), (.int .u64 0), (.int .u64 0), (.int .u64 0), (.int .u64 0), (.int .u64 0), (.int .u64 0), (.bool false), (.slice none 0 0), (.int .u64 0), (.int .u64 0), (.slice none 0 0), (.slice none 0 0)]⟩ (.alt ⟨(some 6), none, .act, .alloc [(.int .i64 0), (.int .u64 0), (.int .u64 0), (.int .u64 0), (.int .u64 0), (.int .u64 0), (.int .u64 0), (.int .u64 0), (.bool false), (.slice none 0 0), (.int .u64 0), (.int .u64 0), (.slice none 0 0), (.slice none 0 0)]⟩ (.alt ⟨none, none, .act, .store 14 (.tmp 6) (.tmp 21)⟩ (.alt ⟨none, none, .act, .store 14 (.tmp 7) (.tmp 25)⟩ .done
    .stop)
    .stop)
    .stop)
    .stop)))))))))))
   (.seq (.region [
     ⟨(some 26), none, .act, .fieldAddr 0 (.tmp 6)⟩,
     ⟨(some 27), none, .act, .load false 1 (.tmp 26)⟩,
     ⟨(some 28), none, .act, .fieldAddr 0 (.tmp 7)⟩,
     ⟨(some 29), none, .act, .load false 1 (.tmp 28)⟩,
     ⟨(some 30), none, .act, .eq true .int (.tmp 27) (.tmp 29)⟩,
     ⟨(some 31), none, .act, .mv (.tmp 30)⟩,
     ⟨(some 32), (some (31, false)), .act, .fieldAddr 1 (.tmp 6)⟩,
     ⟨(some 33), (some (31, false)), .act, .load false 1 (.tmp 32)⟩,
     ⟨(some 34), (some (31, false)), .act, .fieldAddr 1 (.tmp 7)⟩,
     ⟨(some 35), (some (31, false)), .act, .load false 1 (.tmp 34)⟩,
     ⟨(some 36), (some (31, false)), .act, .eq true .int (.tmp 33) (.tmp 35)⟩,
     ⟨(some 37), none, .act, .pick (.tmp 31) (.const (.bool true)) (.tmp 36)⟩,
     ⟨(some 38), none, .act, .mv (.tmp 37)⟩,
     ⟨(some 39), (some (38, false)), .act, .fieldAddr 2 (.tmp 6)⟩,
     ⟨(some 40), (some (38, false)), .act, .load false 1 (.tmp 39)⟩,
     ⟨(some 41), (some (38, false)), .act, .fieldAddr 2 (.tmp 7)⟩,
     ⟨(some 42), (some (38, false)), .act, .load false 1 (.tmp 41)⟩,
     ⟨(some 43), (some (38, false)), .act, .eq true .int (.tmp 40) (.tmp 42)⟩,
     ⟨(some 44), none, .act, .pick (.tmp 38) (.const (.bool true)) (.tmp 43)⟩,
     ⟨(some 45), none, .act, .mv (.tmp 44)⟩,
     ⟨(some 46), (some (45, false)), .act, .fieldAddr 3 (.tmp 6)⟩,
     ⟨(some 47), (some (45, false)), .act, .load false 1 (.tmp 46)⟩,
     ⟨(some 48), (some (45, false)), .act, .fieldAddr 3 (.tmp 7)⟩,
     ⟨(some 49), (some (45, false)), .act, .load false 1 (.tmp 48)⟩,
     ⟨(some 50), (some (45, false)), .act, .eq true .int (.tmp 47) (.tmp 49)⟩,
     ⟨(some 51), none, .act, .pick (.tmp 45) (.const (.bool true)) (.tmp 50)⟩,
     ⟨(some 52), none, .act, .mv (.tmp 51)⟩,
     ⟨(some 53), (some (52, false)), .act, .fieldAddr 4 (.tmp 6)⟩,
     ⟨(some 54), (some (52, false)), .act, .load false 1 (.tmp 53)⟩,
     ⟨(some 55), (some (52, false)), .act, .fieldAddr 4 (.tmp 7)⟩,
     ⟨(some 56), (some (52, false)), .act, .load false 1 (.tmp 55)⟩,
     ⟨(some 57), (some (52, false)), .act, .eq true .int (.tmp 54) (.tmp 56)⟩,
     ⟨(some 58), none, .act, .pick (.tmp 52) (.const (.bool true)) (.tmp 57)⟩,
     ⟨(some 59), none, .act, .mv (.tmp 58)⟩,
     ⟨(some 60), (some (59, false)), .act, .fieldAddr 5 (.tmp 6)⟩,
     ⟨(some 61), (some (59, false)), .act, .load false 1 (.tmp 60)⟩,
     ⟨(some 62), (some (59, false)), .act, .fieldAddr 5 (.tmp 7)⟩,
     ⟨(some 63), (some (59, false)), .act, .load false 1 (.tmp 62)⟩,
     ⟨(some 64), (some (59, false)), .act, .eq true .int (.tmp 61) (.tmp 63)⟩,
     ⟨(some 65), none, .act, .pick (.tmp 59) (.const (.bool true)) (.tmp 64)⟩,
     ⟨(some 66), none, .act, .mv (.tmp 65)⟩,
     ⟨(some 67), (some (66, false)), .act, .fieldAddr 6 (.tmp 6)⟩,
     ⟨(some 68), (some (66, false)), .act, .load false 1 (.tmp 67)⟩,
     ⟨(some 69), (some (66, false)), .act, .fieldAddr 6 (.tmp 7)⟩,
     ⟨(some 70), (some (66, false)), .act, .load false 1 (.tmp 69)⟩,
     ⟨(some 71), (some (66, false)), .act, .eq true .int (.tmp 68) (.tmp 70)⟩,
     ⟨(some 72), none, .act, .pick (.tmp 66) (.const (.bool true)) (.tmp 71)⟩,
     ⟨(some 73), none, .act, .mv (.tmp 72)⟩,
     ⟨(some 74), (some (73, false)), .act, .fieldAddr 7 (.tmp 6)⟩,
     ⟨(some 75), (some (73, false)), .act, .load false 1 (.tmp 74)⟩,
     ⟨(some 76), (some (73, false)), .act, .fieldAddr 7 (.tmp 7)⟩,
     ⟨(some 77), (some (73, false)), .act, .load false 1 (.tmp 76)⟩,
     ⟨(some 78), (some (73, false)), .act, .eq true .int (.tmp 75) (.tmp 77)⟩,
     ⟨(some 79), none, .act, .pick (.tmp 73) (.const (.bool true)) (.tmp 78)⟩,
     ⟨(some 80), none, .act, .mv (.tmp 79)⟩,
     ⟨(some 81), (some (80, false)), .act, .fieldAddr 8 (.tmp 6)⟩,
     ⟨(some 82), (some (80, false)), .act, .load false 1 (.tmp 81)⟩,
     ⟨(some 83), (some (80, false)), .act, .fieldAddr 8 (.tmp 7)⟩,
     ⟨(some 84), (some (80, false)), .act, .load false 1 (.tmp 83)⟩,
     ⟨(some 85), (some (80, false)), .act, .eq true .bool (.tmp 82) (.tmp 84)⟩,
     ⟨(some 86), none, .act, .pick (.tmp 80) (.const (.bool true)) (.tmp 85)⟩,
     ⟨(some 87), none, .act, .mv (.tmp 86)⟩,
     ⟨(some 88), (some (87, false)), .act, .fieldAddr 9 (.tmp 6)⟩,
     ⟨(some 89), (some (87, false)), .act, .load false 1 (.tmp 88)⟩,
     ⟨(some 90), (some (87, false)), .act, .fieldAddr 9 (.tmp 7)⟩,
     ⟨(some 91), (some (87, false)), .act, .load false 1 (.tmp 90)⟩,
     ⟨(some 92), (some (87, false)), .act, .call 17 [(.tmp 89), (.tmp 91)]⟩,
     ⟨(some 93), (some (87, false)), .act, .un .not (.tmp 92)⟩,
     ⟨(some 94), none, .act, .pick (.tmp 87) (.const (.bool true)) (.tmp 93)⟩,
     ⟨(some 95), none, .act, .mv (.tmp 94)⟩,
     ⟨(some 96), (some (95, false)), .act, .fieldAddr 10 (.tmp 6)⟩,
     ⟨(some 97), (some (95, false)), .act, .load true 4 (.tmp 96)⟩,
     ⟨(some 98), (some (95, false)), .act, .fieldAddr 10 (.tmp 7)⟩,
     ⟨(some 99), (some (95, false)), .act, .load true 4 (.tmp 98)⟩,
     ⟨(some 100), (some (95, false)), .act, .call 60 [(.tmp 97), (.tmp 99)]⟩,
     ⟨(some 101), (some (95, false)), .act, .un .not (.tmp 100)⟩,
     ⟨(some 102), none, .act, .pick (.tmp 95) (.const (.bool true)) (.tmp 101)⟩])
   (.cond (.tmp 102)
    (.seq (.region [
      ⟨(some 4), none, .act, .mv (.const (.bool false))⟩])
    .ret)
    .skip)))))
  (.region [
    ⟨(some 103), none, .act, .bin .add (.tmp 15) (.const (.int .i64 1))⟩,
    ⟨(some 15), none, .act, .mv (.tmp 103)⟩]))))
/-- plenum/plenumref09.SameMsgs -/
def r23 : RCode :=
  (.seq (.region [
    ⟨(some 4), none, .act, .mv (.const (.bool false))⟩])
  (.seq (.seq (.region [
    ⟨(some 8), none, .act, .mv (.tmp 0)⟩,
    ⟨(some 9), none, .act, .len (.tmp 8)⟩,
    ⟨(some 10), none, .act, .mv (.tmp 1)⟩,
    ⟨(some 11), none, .act, .len (.tmp 10)⟩,
    ⟨(some 12), none, .act, .eq true .int (.tmp 9) (.tmp 11)⟩])
  (.cond (.tmp 12)
   (.seq (.region [
     ⟨(some 4), none, .act, .mv (.const (.bool false))⟩])
   .ret)
   .skip))
  (.seq (.seq (.region [
    ⟨(some 13), none, .act, .mv (.tmp 0)⟩,
    ⟨(some 14), none, .act, .len (.tmp 13)⟩,
    ⟨(some 15), none, .act, .mv (.const (.int .i64 0))⟩])
  (.block 0
   (.loop r23l0)))
  (.seq (.region [
    ⟨(some 4), none, .act, .mv (.const (.bool true))⟩])
  .ret))))
theorem res23 : ∃ c, Try.f23.body = some c ∧ resCode Try.prog 104 c = some r23 := ⟨_, rfl, by kernel_rfl⟩
theorem rr23 : resRes Try.prog Try.f23.results.toList = some [.tmp 4] := by kernel_rfl
def r23t : RCode :=
  (.seq (.region [
     ⟨(some 26), none, .act, .fieldAddr 0 (.tmp 6)⟩,
     ⟨(some 27), none, .act, .load false 1 (.tmp 26)⟩,
     ⟨(some 28), none, .act, .fieldAddr 0 (.tmp 7)⟩,
     ⟨(some 29), none, .act, .load false 1 (.tmp 28)⟩,
     ⟨(some 30), none, .act, .eq true .int (.tmp 27) (.tmp 29)⟩,
     ⟨(some 31), none, .act, .mv (.tmp 30)⟩,
     ⟨(some 32), (some (31, false)), .act, .fieldAddr 1 (.tmp 6)⟩,
     ⟨(some 33), (some (31, false)), .act, .load false 1 (.tmp 32)⟩,
     ⟨(some 34), (some (31, false)), .act, .fieldAddr 1 (.tmp 7)⟩,
     ⟨(some 35), (some (31, false)), .act, .load false 1 (.tmp 34)⟩,
     ⟨(some 36), (some (31, false)), .act, .eq true .int (.tmp 33) (.tmp 35)⟩,
     ⟨(some 37), none, .act, .pick (.tmp 31) (.const (.bool true)) (.tmp 36)⟩,
     ⟨(some 38), none, .act, .mv (.tmp 37)⟩,
     ⟨(some 39), (some (38, false)), .act, .fieldAddr 2 (.tmp 6)⟩,
     ⟨(some 40), (some (38, false)), .act, .load false 1 (.tmp 39)⟩,
     ⟨(some 41), (some (38, false)), .act, .fieldAddr 2 (.tmp 7)⟩,
     ⟨(some 42), (some (38, false)), .act, .load false 1 (.tmp 41)⟩,
     ⟨(some 43), (some (38, false)), .act, .eq true .int (.tmp 40) (.tmp 42)⟩,
     ⟨(some 44), none, .act, .pick (.tmp 38) (.const (.bool true)) (.tmp 43)⟩,
     ⟨(some 45), none, .act, .mv (.tmp 44)⟩,
     ⟨(some 46), (some (45, false)), .act, .fieldAddr 3 (.tmp 6)⟩,
     ⟨(some 47), (some (45, false)), .act, .load false 1 (.tmp 46)⟩,
     ⟨(some 48), (some (45, false)), .act, .fieldAddr 3 (.tmp 7)⟩,
     ⟨(some 49), (some (45, false)), .act, .load false 1 (.tmp 48)⟩,
     ⟨(some 50), (some (45, false)), .act, .eq true .int (.tmp 47) (.tmp 49)⟩,
     ⟨(some 51), none, .act, .pick (.tmp 45) (.const (.bool true)) (.tmp 50)⟩,
     ⟨(some 52), none, .act, .mv (.tmp 51)⟩,
     ⟨(some 53), (some (52, false)), .act, .fieldAddr 4 (.tmp 6)⟩,
     ⟨(some 54), (some (52, false)), .act, .load false 1 (.tmp 53)⟩,
     ⟨(some 55), (some (52, false)), .act, .fieldAddr 4 (.tmp 7)⟩,
     ⟨(some 56), (some (52, false)), .act, .load false 1 (.tmp 55)⟩,
     ⟨(some 57), (some (52, false)), .act, .eq true .int (.tmp 54) (.tmp 56)⟩,
     ⟨(some 58), none, .act, .pick (.tmp 52) (.const (.bool true)) (.tmp 57)⟩,
     ⟨(some 59), none, .act, .mv (.tmp 58)⟩,
     ⟨(some 60), (some (59, false)), .act, .fieldAddr 5 (.tmp 6)⟩,
     ⟨(some 61), (some (59, false)), .act, .load false 1 (.tmp 60)⟩,
     ⟨(some 62), (some (59, false)), .act, .fieldAddr 5 (.tmp 7)⟩,
     ⟨(some 63), (some (59, false)), .act, .load false 1 (.tmp 62)⟩,
     ⟨(some 64), (some (59, false)), .act, .eq true .int (.tmp 61) (.tmp 63)⟩,
     ⟨(some 65), none, .act, .pick (.tmp 59) (.const (.bool true)) (.tmp 64)⟩,
     ⟨(some 66), none, .act, .mv (.tmp 65)⟩,
     ⟨(some 67), (some (66, false)), .act, .fieldAddr 6 (.tmp 6)⟩,
     ⟨(some 68), (some (66, false)), .act, .load false 1 (.tmp 67)⟩,
     ⟨(some 69), (some (66, false)), .act, .fieldAddr 6 (.tmp 7)⟩,
     ⟨(some 70), (some (66, false)), .act, .load false 1 (.tmp 69)⟩,
     ⟨(some 71), (some (66, false)), .act, .eq true .int (.tmp 68) (.tmp 70)⟩,
     ⟨(some 72), none, .act, .pick (.tmp 66) (.const (.bool true)) (.tmp 71)⟩,
     ⟨(some 73), none, .act, .mv (.tmp 72)⟩,
     ⟨(some 74), (some (73, false)), .act, .fieldAddr 7 (.tmp 6)⟩,
     ⟨(some 75), (some (73, false)), .act, .load false 1 (.tmp 74)⟩,
     ⟨(some 76), (some (73, false)), .act, .fieldAddr 7 (.tmp 7)⟩,
     ⟨(some 77), (some (73, false)), .act, .load false 1 (.tmp 76)⟩,
     ⟨(some 78), (some (73, false)), .act, .eq true .int (.tmp 75) (.tmp 77)⟩,
     ⟨(some 79), none, .act, .pick (.tmp 73) (.const (.bool true)) (.tmp 78)⟩,
     ⟨(some 80), none, .act, .mv (.tmp 79)⟩,
     ⟨(some 81), (some (80, false)), .act, .fieldAddr 8 (.tmp 6)⟩,
     ⟨(some 82), (some (80, false)), .act, .load false 1 (.tmp 81)⟩,
     ⟨(some 83), (some (80, false)), .act, .fieldAddr 8 (.tmp 7)⟩,
     ⟨(some 84), (some (80, false)), .act, .load false 1 (.tmp 83)⟩,
     ⟨(some 85), (some (80, false)), .act, .eq true .bool (.tmp 82) (.tmp 84)⟩,
     ⟨(some 86), none, .act, .pick (.tmp 80) (.const (.bool true)) (.tmp 85)⟩,
     ⟨(some 87), none, .act, .mv (.tmp 86)⟩,
     ⟨(some 88), (some (87, false)), .act, .fieldAddr 9 (.tmp 6)⟩,
     ⟨(some 89), (some (87, false)), .act, .load false 1 (.tmp 88)⟩,
     ⟨(some 90), (some (87, false)), .act, .fieldAddr 9 (.tmp 7)⟩,
     ⟨(some 91), (some (87, false)), .act, .load false 1 (.tmp 90)⟩,
     ⟨(some 92), (some (87, false)), .act, .call 17 [(.tmp 89), (.tmp 91)]⟩,
     ⟨(some 93), (some (87, false)), .act, .un .not (.tmp 92)⟩,
     ⟨(some 94), none, .act, .pick (.tmp 87) (.const (.bool true)) (.tmp 93)⟩,
     ⟨(some 95), none, .act, .mv (.tmp 94)⟩,
     ⟨(some 96), (some (95, false)), .act, .fieldAddr 10 (.tmp 6)⟩,
     ⟨(some 97), (some (95, false)), .act, .load true 4 (.tmp 96)⟩,
     ⟨(some 98), (some (95, false)), .act, .fieldAddr 10 (.tmp 7)⟩,
     ⟨(some 99), (some (95, false)), .act, .load true 4 (.tmp 98)⟩,
     ⟨(some 100), (some (95, false)), .act, .call 60 [(.tmp 97), (.tmp 99)]⟩,
     ⟨(some 101), (some (95, false)), .act, .un .not (.tmp 100)⟩,
     ⟨(some 102), none, .act, .pick (.tmp 95) (.const (.bool true)) (.tmp 101)⟩])
   (.cond (.tmp 102)
    (.seq (.region [
      ⟨(some 4), none, .act, .mv (.const (.bool false))⟩])
    .ret)
    .skip))

theorem msgs_body (x : Msg) (he : x.ents.length ≤ 17592186044416) (hm : x.snap.members.length ≤ 9223372036854775806) (h : AHeap) (b6 b7 : Nat) (h6 : h b6 = some (.box x.cells)) (h7 : h b7 = some (.box x.cells)) (i : Nat) (n : Int) (hi : i ≤ 1000000) (e0 e1 : AV) (k : List RT) (Q : AV → AHeap → Prop)
    (hk : RRun Try.prog Try.f23 104 k (Env.get [(15, i64 i), (14, i64 n), (0, e0), (1, e1)]) h Q) :
    RRun Try.prog Try.f23 104 (.code r23t :: k) (Env.get [(6, ptr b6), (7, ptr b7), (15, i64 i), (14, i64 n), (0, e0), (1, e1)]) h Q := by
  have c17 := same_spec x.ents he
  have c60 := sameSnap_spec x.snap hm
  repeat' (first
    | refine S.nilK ?_
    | (refine S.op rfl ?_; first
      | refine S.eqIntSame rfl rfl ?_
      | refine S.eqBoolSame rfl rfl ?_
      | refine R.callQ (by decide) rfl (c17 _) ?_
      | refine R.callQ (by decide) rfl (c60 _) ?_
      | refine R.mv rfl ?_
      | refine R.fieldAddr rfl ?_
      | refine R.fieldAddrR rfl ?_
      | refine R.nilCheck rfl ?_
      | refine R.nilCheckR rfl ?_
      | refine R.loadR rfl rfl ?_
      | refine R.load (by decide) rfl (by (repeat' (first | assumption | exact AHeap.set_same _ _ _ | refine AHeap.get_fresh (by assumption) ?_ | refine AHeap.so ?_ ?_ | exact AHeap.n1 (by assumption) | exact AHeap.n2 (by assumption) | exact AHeap.ne_of (by assumption) (by assumption) | exact AHeap.n4 (by assumption) (by assumption) | exact AHeap.n5 (by assumption) | exact AHeap.n6 (by assumption) | exact AHeap.n7 (by assumption) (by assumption) | exact AHeap.n8 (by assumption) (by assumption))); first | done | fail) rfl ?_
      | refine S.addI rfl rfl (by omega) ?_
      | refine S.subI rfl rfl (by omega) ?_
      | refine S.addU rfl rfl ?_
      | refine S.subU rfl rfl ?_
      | refine S.addUc rfl (by decide) ?_
      | refine S.subUc rfl (by decide) ?_
      | refine S.arith rfl rfl rfl ?_
      | refine R.pickT rfl rfl ?_
      | refine R.pickF rfl rfl ?_
      | refine R.len rfl ?_
      | refine R.lenA rfl ?_
      | refine R.lenStr rfl ?_
      | refine S.convIU rfl (by omega) ?_
      | refine S.convUI rfl (by omega) ?_
      | refine R.convInt rfl ?_
      | refine R.not rfl ?_
      | refine R.eqPtrNil rfl rfl ?_
      | refine R.extract rfl rfl ?_
      | refine R.field rfl rfl ?_
      | refine R.alloc rfl (fun b hb => ?_)
      | refine R.box rfl rfl rfl (fun b hb => ?_)
      | refine R.build rfl rfl ?_
      | refine R.buildSl rfl rfl rfl (by decide) ?_
      | refine R.toStr rfl ?_
      | refine R.convStr rfl ?_
      | refine R.minmax rfl ?_
      | refine R.makeFunc rfl rfl ?_
      | (first | refine S.lss rfl rfl (fun hlt => ?_) (fun hlt => by exfalso; omega) | refine S.lss rfl rfl (fun hlt => by exfalso; omega) (fun hlt => ?_) | refine S.lss rfl rfl (fun hlt => ?_) (fun hlt => ?_))
      | (first | refine S.gtr rfl rfl (fun hlt => ?_) (fun hlt => by exfalso; omega) | refine S.gtr rfl rfl (fun hlt => by exfalso; omega) (fun hlt => ?_) | refine S.gtr rfl rfl (fun hlt => ?_) (fun hlt => ?_))
      | (first | refine S.leq rfl rfl (fun hlt => ?_) (fun hlt => by exfalso; omega) | refine S.leq rfl rfl (fun hlt => by exfalso; omega) (fun hlt => ?_) | refine S.leq rfl rfl (fun hlt => ?_) (fun hlt => ?_))
      | (first | refine S.geq rfl rfl (fun hlt => ?_) (fun hlt => by exfalso; omega) | refine S.geq rfl rfl (fun hlt => by exfalso; omega) (fun hlt => ?_) | refine S.geq rfl rfl (fun hlt => ?_) (fun hlt => ?_))
      | (first | refine S.eqInt rfl rfl (fun hlt => ?_) (fun hlt => by exfalso; omega) | refine S.eqInt rfl rfl (fun hlt => by exfalso; omega) (fun hlt => ?_) | refine S.eqInt rfl rfl (fun hlt => ?_) (fun hlt => ?_)))
    | (refine S.op0 rfl ?_; first | refine S.storeS rfl rfl rfl (by rfl) rfl (by first | decide | exact Nat.le_refl _ | exact Nat.le_of_ble_eq_true rfl) ?_ | refine S.store rfl rfl (by (repeat' (first | assumption | exact AHeap.set_same _ _ _ | refine AHeap.get_fresh (by assumption) ?_ | refine AHeap.so ?_ ?_ | exact AHeap.n1 (by assumption) | exact AHeap.n2 (by assumption) | exact AHeap.ne_of (by assumption) (by assumption) | exact AHeap.n4 (by assumption) (by assumption) | exact AHeap.n5 (by assumption) | exact AHeap.n6 (by assumption) | exact AHeap.n7 (by assumption) (by assumption) | exact AHeap.n8 (by assumption) (by assumption))); first | done | fail) rfl rfl rfl (by rfl) rfl ?_)
    | refine S.skip rfl ?_
    | refine S.skip0 rfl ?_
    | refine S.seq ?_
    | refine S.region ?_
    | refine S.regionT ?_
    | refine S.tstep ?_
    | refine S.talt ?_ ?_
    | exact S.tstop
    | refine S.tdone ?_
    | refine S.condT rfl ?_
    | refine S.condF rfl ?_
    | refine RRun.skip ?_
    | refine RRun.block ?_
    | refine RRun.inBlock ?_
    | refine RRun.exit rfl ?_)
  exact S.keep [15, 14, 0, 1] rfl hk

end Go.Proofs.Ytnmgamcmjjngcaa
