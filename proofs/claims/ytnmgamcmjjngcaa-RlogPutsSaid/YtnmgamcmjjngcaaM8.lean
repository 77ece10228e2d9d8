import Derived.Test.YtnmgamcmjjngcaaM7
set_option linter.unusedVariables false
set_option linter.unusedSimpArgs false
namespace Go.Proofs.Ytnmgamcmjjngcaa
open Go.Av
open Go.Sort (swp PermIn SortedIn Below SWO)


def r103l0 : RCode :=
  (.block 1
   (.seq (.region [
     ⟨(some 19), none, .act, .mv (.tmp 2)⟩,
     ⟨(some 20), none, .act, .mv (.tmp 1)⟩,
     ⟨(some 21), none, .act, .bin .sub (.tmp 19) (.tmp 20)⟩,
     ⟨(some 10), none, .act, .mv (.tmp 21)⟩])
   (.seq (.seq (.region [
     ⟨(some 22), none, .act, .mv (.tmp 10)⟩,
     ⟨(some 23), none, .act, .bin .leq (.tmp 22) (.const (.int .i64 12))⟩])
   (.cond (.tmp 23)
    (.seq (.region [
      ⟨(some 24), none, .act, .mv (.tmp 0)⟩,
      ⟨(some 25), none, .act, .mv (.tmp 1)⟩,
      ⟨(some 26), none, .act, .mv (.tmp 2)⟩,
      ⟨(some 27), none, .act, .call 107 [(.tmp 24), (.tmp 25), (.tmp 26)]⟩])
    .ret)
    .skip))
   (.seq (.seq (.region [
     ⟨(some 28), none, .act, .mv (.tmp 3)⟩,
     ⟨(some 29), none, .act, .eq false .int (.tmp 28) (.const (.int .i64 0))⟩])
   (.cond (.tmp 29)
    (.seq (.region [
      ⟨(some 30), none, .act, .mv (.tmp 0)⟩,
      ⟨(some 31), none, .act, .mv (.tmp 1)⟩,
      ⟨(some 32), none, .act, .mv (.tmp 2)⟩,
      ⟨(some 33), none, .act, .call 108 [(.tmp 30), (.tmp 31), (.tmp 32)]⟩])
    .ret)
    .skip))
   (.seq (.seq (.region [
     ⟨(some 34), none, .act, .mv (.tmp 8)⟩,
     ⟨(some 35), none, .act, .un .not (.tmp 34)⟩])
   (.cond (.tmp 35)
    (.seq (.region [
      ⟨(some 36), none, .act, .mv (.tmp 0)⟩,
      ⟨(some 37), none, .act, .mv (.tmp 1)⟩,
      ⟨(some 38), none, .act, .mv (.tmp 2)⟩,
      ⟨(some 39), none, .act, .call 109 [(.tmp 36), (.tmp 37), (.tmp 38)]⟩])
    (.region [
      ⟨(some 40), none, .act, .mv (.tmp 3)⟩,
      ⟨(some 41), none, .act, .bin .sub (.tmp 40) (.const (.int .i64 1))⟩,
      ⟨(some 3), none, .act, .mv (.tmp 41)⟩]))
    .skip))
   (.seq (.region [
     ⟨(some 43), none, .act, .mv (.tmp 0)⟩,
     ⟨(some 44), none, .act, .mv (.tmp 1)⟩,
     ⟨(some 45), none, .act, .mv (.tmp 2)⟩,
     ⟨(some 46), none, .act, .call 110 [(.tmp 43), (.tmp 44), (.tmp 45)]⟩,
     ⟨(some 42), none, .act, .mv (.tmp 46)⟩,
     ⟨(some 47), none, .act, .extract (.tmp 42) 0⟩,
     ⟨(some 48), none, .act, .extract (.tmp 42) 1⟩,
     ⟨(some 11), none, .act, .mv (.tmp 47)⟩,
     ⟨(some 12), none, .act, .mv (.tmp 48)⟩])
   (.seq (.seq (.region [
     ⟨(some 49), none, .act, .mv (.tmp 12)⟩,
     ⟨(some 50), none, .act, .eq false .int (.tmp 49) (.const (.int .i64 2))⟩])
   (.cond (.tmp 50)
    (.seq (.region [
      ⟨(some 51), none, .act, .mv (.tmp 0)⟩,
      ⟨(some 52), none, .act, .mv (.tmp 1)⟩,
      ⟨(some 53), none, .act, .mv (.tmp 2)⟩,
      ⟨(some 54), none, .act, .call 111 [(.tmp 51), (.tmp 52), (.tmp 53)]⟩])
    (.seq (.region [
      ⟨(some 55), none, .act, .mv (.tmp 2)⟩,
      ⟨(some 56), none, .act, .bin .sub (.tmp 55) (.const (.int .i64 1))⟩,
      ⟨(some 57), none, .act, .mv (.tmp 11)⟩,
      ⟨(some 58), none, .act, .mv (.tmp 1)⟩,
      ⟨(some 59), none, .act, .bin .sub (.tmp 57) (.tmp 58)⟩,
      ⟨(some 60), none, .act, .bin .sub (.tmp 56) (.tmp 59)⟩,
      ⟨(some 11), none, .act, .mv (.tmp 60)⟩])
    (.region [
      ⟨(some 12), none, .act, .mv (.const (.int .i64 1))⟩])))
    .skip))
   (.seq (.seq (.region [
     ⟨(some 61), none, .act, .mv (.tmp 8)⟩,
     ⟨(some 62), none, .act, .mv (.tmp 61)⟩,
     ⟨(some 63), (some (62, true)), .act, .mv (.tmp 9)⟩,
     ⟨(some 64), none, .act, .pick (.tmp 62) (.tmp 63) (.const (.bool false))⟩,
     ⟨(some 65), none, .act, .mv (.tmp 64)⟩,
     ⟨(some 66), (some (65, true)), .act, .mv (.tmp 12)⟩,
     ⟨(some 67), (some (65, true)), .act, .eq false .int (.tmp 66) (.const (.int .i64 1))⟩,
     ⟨(some 68), none, .act, .pick (.tmp 65) (.tmp 67) (.const (.bool false))⟩])
   (.cond (.tmp 68)
    (.seq (.region [
      ⟨(some 69), none, .act, .mv (.tmp 0)⟩,
      ⟨(some 70), none, .act, .mv (.tmp 1)⟩,
      ⟨(some 71), none, .act, .mv (.tmp 2)⟩,
      ⟨(some 72), none, .act, .call 112 [(.tmp 69), (.tmp 70), (.tmp 71)]⟩])
    (.cond (.tmp 72)
     .ret
     .skip))
    .skip))
   (.seq (.seq (.region [
     ⟨(some 73), none, .pure, .mv (.tmp 1)⟩,
     ⟨(some 74), none, .pure, .bin .gtr (.tmp 73) (.const (.int .i64 0))⟩,
     ⟨(some 75), none, .pure, .mv (.tmp 74)⟩,
     ⟨(some 76), (some (75, true)), .pure, .mv (.tmp 0)⟩,
     ⟨(some 77), (some (75, true)), .pure, .mv (.tmp 1)⟩,
     ⟨(some 78), (some (75, true)), .pure, .bin .sub (.tmp 77) (.const (.int .i64 1))⟩,
     ⟨(some 79), (some (75, true)), .pure, .indexAddr 1 (.tmp 76) (.tmp 78)⟩,
     ⟨(some 80), (some (75, true)), .read, .load false 1 (.tmp 79)⟩,
     ⟨(some 81), (some (75, true)), .pure, .mv (.tmp 0)⟩,
     ⟨(some 82), (some (75, true)), .pure, .mv (.tmp 11)⟩,
     ⟨(some 83), (some (75, true)), .pure, .indexAddr 1 (.tmp 81) (.tmp 82)⟩,
     ⟨(some 84), (some (75, true)), .read, .load false 1 (.tmp 83)⟩,
     ⟨(some 85), (some (75, true)), .act, .call 113 [(.tmp 80), (.tmp 84)]⟩,
     ⟨(some 86), (some (75, true)), .pure, .un .not (.tmp 85)⟩,
     ⟨(some 87), none, .pure, .pick (.tmp 75) (.tmp 86) (.const (.bool false))⟩])
   (.cond (.tmp 87)
    (.seq (.region [
      ⟨(some 88), none, .act, .mv (.tmp 0)⟩,
      ⟨(some 89), none, .act, .mv (.tmp 1)⟩,
      ⟨(some 90), none, .act, .mv (.tmp 2)⟩,
      ⟨(some 91), none, .act, .mv (.tmp 11)⟩,
      ⟨(some 92), none, .act, .call 114 [(.tmp 88), (.tmp 89), (.tmp 90), (.tmp 91)]⟩,
      ⟨(some 13), none, .act, .mv (.tmp 92)⟩])
    (.seq (.region [
      ⟨(some 93), none, .act, .mv (.tmp 13)⟩,
      ⟨(some 1), none, .act, .mv (.tmp 93)⟩])
    (.exit 1)))
    .skip))
   (.seq (.region [
     ⟨(some 95), none, .act, .mv (.tmp 0)⟩,
     ⟨(some 96), none, .act, .mv (.tmp 1)⟩,
     ⟨(some 97), none, .act, .mv (.tmp 2)⟩,
     ⟨(some 98), none, .act, .mv (.tmp 11)⟩,
     ⟨(some 99), none, .act, .call 115 [(.tmp 95), (.tmp 96), (.tmp 97), (.tmp 98)]⟩,
     ⟨(some 94), none, .act, .mv (.tmp 99)⟩,
     ⟨(some 100), none, .act, .extract (.tmp 94) 0⟩,
     ⟨(some 101), none, .act, .extract (.tmp 94) 1⟩,
     ⟨(some 14), none, .act, .mv (.tmp 100)⟩,
     ⟨(some 15), none, .act, .mv (.tmp 101)⟩])
   (.seq (.region [
     ⟨(some 102), none, .act, .mv (.tmp 15)⟩,
     ⟨(some 9), none, .act, .mv (.tmp 102)⟩])
   (.seq (.region [
     ⟨(some 103), none, .act, .mv (.tmp 14)⟩,
     ⟨(some 104), none, .act, .mv (.tmp 1)⟩,
     ⟨(some 105), none, .act, .bin .sub (.tmp 103) (.tmp 104)⟩,
     ⟨(some 106), none, .act, .mv (.tmp 2)⟩,
     ⟨(some 107), none, .act, .mv (.tmp 14)⟩,
     ⟨(some 108), none, .act, .bin .sub (.tmp 106) (.tmp 107)⟩,
     ⟨(some 16), none, .act, .mv (.tmp 105)⟩,
     ⟨(some 17), none, .act, .mv (.tmp 108)⟩])
   (.seq (.region [
     ⟨(some 109), none, .act, .mv (.tmp 10)⟩,
     ⟨(some 110), none, .act, .bin .quo (.tmp 109) (.const (.int .i64 8))⟩,
     ⟨(some 18), none, .act, .mv (.tmp 110)⟩])
   (.seq (.region [
     ⟨(some 111), none, .act, .mv (.tmp 16)⟩,
     ⟨(some 112), none, .act, .mv (.tmp 17)⟩,
     ⟨(some 113), none, .act, .bin .lss (.tmp 111) (.tmp 112)⟩])
   (.cond (.tmp 113)
    (.seq (.region [
      ⟨(some 114), none, .act, .mv (.tmp 16)⟩,
      ⟨(some 115), none, .act, .mv (.tmp 18)⟩,
      ⟨(some 116), none, .act, .bin .geq (.tmp 114) (.tmp 115)⟩,
      ⟨(some 8), none, .act, .mv (.tmp 116)⟩])
    (.seq (.region [
      ⟨(some 117), none, .act, .mv (.tmp 0)⟩,
      ⟨(some 118), none, .act, .mv (.tmp 1)⟩,
      ⟨(some 119), none, .act, .mv (.tmp 14)⟩,
      ⟨(some 120), none, .act, .mv (.tmp 3)⟩,
      ⟨(some 121), none, .act, .call 103 [(.tmp 117), (.tmp 118), (.tmp 119), (.tmp 120)]⟩])
    (.region [
      ⟨(some 122), none, .act, .mv (.tmp 14)⟩,
      ⟨(some 123), none, .act, .bin .add (.tmp 122) (.const (.int .i64 1))⟩,
      ⟨(some 1), none, .act, .mv (.tmp 123)⟩])))
    (.seq (.region [
      ⟨(some 124), none, .act, .mv (.tmp 17)⟩,
      ⟨(some 125), none, .act, .mv (.tmp 18)⟩,
      ⟨(some 126), none, .act, .bin .geq (.tmp 124) (.tmp 125)⟩,
      ⟨(some 8), none, .act, .mv (.tmp 126)⟩])
    (.seq (.region [
      ⟨(some 127), none, .act, .mv (.tmp 0)⟩,
      ⟨(some 128), none, .act, .mv (.tmp 14)⟩,
      ⟨(some 129), none, .act, .bin .add (.tmp 128) (.const (.int .i64 1))⟩,
      ⟨(some 130), none, .act, .mv (.tmp 2)⟩,
      ⟨(some 131), none, .act, .mv (.tmp 3)⟩,
      ⟨(some 132), none, .act, .call 103 [(.tmp 127), (.tmp 129), (.tmp 130), (.tmp 131)]⟩])
    (.region [
      ⟨(some 133), none, .act, .mv (.tmp 14)⟩,
      ⟨(some 2), none, .act, .mv (.tmp 133)⟩]))))))))))))))))))
/-- slices.pdqsortOrdered[uint64] -/
def r103 : RCode :=
  (.seq (.region [
    ⟨(some 8), none, .act, .mv (.const (.bool true))⟩])
  (.seq (.region [
    ⟨(some 9), none, .act, .mv (.const (.bool true))⟩])
  (.block 0
   (.loop r103l0))))
theorem res103 : ∃ c, Try.f103.body = some c ∧ resCode Try.prog 134 c = some r103 := ⟨_, rfl, by kernel_rfl⟩
theorem rr103 : resRes Try.prog Try.f103.results.toList = some [] := by kernel_rfl

/-- The rest of pdqsort, at the head of its loop. -/
def PdqRest (q cap n : Nat) (sp : List AV) (h : AHeap) (G : Array SE → Prop) (a e : Nat) (d : Array SE) : Prop := ∀ (limit : Nat) (wB wP : Bool), limit ≤ 100 →
  RRun Try.prog Try.f103 134 [.inLoop r103l0, .inBlock 0] (Env.get [(0, slAt q 0 n cap), (1, i64 a), (2, i64 e), (3, i64 limit), (8, bl wB), (9, bl wP)]) (HL h q d.toList sp) (fun _ h' => ∃ d', G d' ∧ h' = HL h q d'.toList sp)

def PdqAll (q cap n : Nat) (sp : List AV) (h : AHeap) (f : Nat) : Prop := ∀ (a e : Nat) (d : Array SE) (G : Array SE → Prop), e - a < f → a ≤ e → e ≤ n → d.size = n → Below ltE a e d →
  (∀ d', d'.size = n → PermIn a e d d' → SortedIn ltE a e d' → G d') → PdqRest q cap n sp h G a e d

theorem pdq_call {q cap n f : Nat} {sp : List AV} {h : AHeap} (hA : PdqAll q cap n sp h f) (a e limit : Nat) (d : Array SE) (hf : e - a < f) (ha : a ≤ e) (he : e ≤ n) (hd : d.size = n) (hB : Below ltE a e d) (hl : limit ≤ 100) :
    ACalls Try.prog 103 [slAt q 0 n cap, i64 a, i64 e, i64 limit] (HL h q d.toList sp) (fun _ h' => ∃ d', (d'.size = n ∧ PermIn a e d d' ∧ SortedIn ltE a e d') ∧ h' = HL h q d'.toList sp) := by
  obtain ⟨c, hc1, hc2⟩ := res103
  refine ACalls.enter Try.func103 hc1 Try.ntmps103 hc2 (Nat.le_of_ble_eq_true rfl) rfl ?_
  repeat' (first | refine S.nilK ?_ | (refine S.op rfl ?_; first | refine R.mv rfl ?_ | refine R.loadR rfl rfl ?_ | refine R.load (by decide) rfl (by first | assumption | exact AHeap.set_same _ _ _) rfl ?_ | refine S.addI rfl rfl (by omega) ?_ | refine S.subI rfl rfl (by omega) ?_ | refine S.addU rfl rfl ?_ | refine S.subU rfl rfl ?_ | refine S.addUc rfl (by decide) ?_ | refine S.subUc rfl (by decide) ?_ | refine S.arith rfl rfl rfl ?_ | refine R.pickT rfl rfl ?_ | refine R.pickF rfl rfl ?_ | refine R.not rfl ?_ | refine R.eqPtrNil rfl rfl ?_ | refine R.extract rfl rfl ?_ | ((first | refine S.lss rfl rfl ?_ ?_ | refine S.gtr rfl rfl ?_ ?_ | refine S.leq rfl rfl ?_ ?_ | refine S.geq rfl rfl ?_ ?_ | refine S.eqInt rfl rfl ?_ ?_) <;> intro hlt <;> try (exfalso; omega))) | refine S.skip rfl ?_ | refine S.skip0 rfl ?_ | refine S.seq ?_ | refine S.region ?_ | refine S.condT rfl ?_ | refine S.condF rfl ?_ | refine RRun.skip ?_ | refine RRun.block ?_ | refine RRun.inBlock ?_ | refine RRun.exit rfl ?_)
  exact RRun.loopIn (S.keep [0, 1, 2, 3, 8, 9] rfl (hA a e d _ hf ha he hd hB (fun d' h1 h2 h3 => ⟨h1, h2, h3⟩) limit true true hl))

def r103e : RCode :=
  (.seq (.region [
     ⟨(some 95), none, .act, .mv (.tmp 0)⟩,
     ⟨(some 96), none, .act, .mv (.tmp 1)⟩,
     ⟨(some 97), none, .act, .mv (.tmp 2)⟩,
     ⟨(some 98), none, .act, .mv (.tmp 11)⟩,
     ⟨(some 99), none, .act, .call 115 [(.tmp 95), (.tmp 96), (.tmp 97), (.tmp 98)]⟩,
     ⟨(some 94), none, .act, .mv (.tmp 99)⟩,
     ⟨(some 100), none, .act, .extract (.tmp 94) 0⟩,
     ⟨(some 101), none, .act, .extract (.tmp 94) 1⟩,
     ⟨(some 14), none, .act, .mv (.tmp 100)⟩,
     ⟨(some 15), none, .act, .mv (.tmp 101)⟩])
   (.seq (.region [
     ⟨(some 102), none, .act, .mv (.tmp 15)⟩,
     ⟨(some 9), none, .act, .mv (.tmp 102)⟩])
   (.seq (.region [
     ⟨(some 103), none, .act, .mv (.tmp 14)⟩,
     ⟨(some 104), none, .act, .mv (.tmp 1)⟩,
     ⟨(some 105), none, .act, .bin .sub (.tmp 103) (.tmp 104)⟩,
     ⟨(some 106), none, .act, .mv (.tmp 2)⟩,
     ⟨(some 107), none, .act, .mv (.tmp 14)⟩,
     ⟨(some 108), none, .act, .bin .sub (.tmp 106) (.tmp 107)⟩,
     ⟨(some 16), none, .act, .mv (.tmp 105)⟩,
     ⟨(some 17), none, .act, .mv (.tmp 108)⟩])
   (.seq (.region [
     ⟨(some 109), none, .act, .mv (.tmp 10)⟩,
     ⟨(some 110), none, .act, .bin .quo (.tmp 109) (.const (.int .i64 8))⟩,
     ⟨(some 18), none, .act, .mv (.tmp 110)⟩])
   (.seq (.region [
     ⟨(some 111), none, .act, .mv (.tmp 16)⟩,
     ⟨(some 112), none, .act, .mv (.tmp 17)⟩,
     ⟨(some 113), none, .act, .bin .lss (.tmp 111) (.tmp 112)⟩])
   (.cond (.tmp 113)
    (.seq (.region [
      ⟨(some 114), none, .act, .mv (.tmp 16)⟩,
      ⟨(some 115), none, .act, .mv (.tmp 18)⟩,
      ⟨(some 116), none, .act, .bin .geq (.tmp 114) (.tmp 115)⟩,
      ⟨(some 8), none, .act, .mv (.tmp 116)⟩])
    (.seq (.region [
      ⟨(some 117), none, .act, .mv (.tmp 0)⟩,
      ⟨(some 118), none, .act, .mv (.tmp 1)⟩,
      ⟨(some 119), none, .act, .mv (.tmp 14)⟩,
      ⟨(some 120), none, .act, .mv (.tmp 3)⟩,
      ⟨(some 121), none, .act, .call 103 [(.tmp 117), (.tmp 118), (.tmp 119), (.tmp 120)]⟩])
    (.region [
      ⟨(some 122), none, .act, .mv (.tmp 14)⟩,
      ⟨(some 123), none, .act, .bin .add (.tmp 122) (.const (.int .i64 1))⟩,
      ⟨(some 1), none, .act, .mv (.tmp 123)⟩])))
    (.seq (.region [
      ⟨(some 124), none, .act, .mv (.tmp 17)⟩,
      ⟨(some 125), none, .act, .mv (.tmp 18)⟩,
      ⟨(some 126), none, .act, .bin .geq (.tmp 124) (.tmp 125)⟩,
      ⟨(some 8), none, .act, .mv (.tmp 126)⟩])
    (.seq (.region [
      ⟨(some 127), none, .act, .mv (.tmp 0)⟩,
      ⟨(some 128), none, .act, .mv (.tmp 14)⟩,
      ⟨(some 129), none, .act, .bin .add (.tmp 128) (.const (.int .i64 1))⟩,
      ⟨(some 130), none, .act, .mv (.tmp 2)⟩,
      ⟨(some 131), none, .act, .mv (.tmp 3)⟩,
      ⟨(some 132), none, .act, .call 103 [(.tmp 127), (.tmp 129), (.tmp 130), (.tmp 131)]⟩])
    (.region [
      ⟨(some 133), none, .act, .mv (.tmp 14)⟩,
      ⟨(some 2), none, .act, .mv (.tmp 133)⟩])))))))))
def r103d : RCode :=
  (.seq (.seq (.region [
     ⟨(some 73), none, .pure, .mv (.tmp 1)⟩,
     ⟨(some 74), none, .pure, .bin .gtr (.tmp 73) (.const (.int .i64 0))⟩,
     ⟨(some 75), none, .pure, .mv (.tmp 74)⟩,
     ⟨(some 76), (some (75, true)), .pure, .mv (.tmp 0)⟩,
     ⟨(some 77), (some (75, true)), .pure, .mv (.tmp 1)⟩,
     ⟨(some 78), (some (75, true)), .pure, .bin .sub (.tmp 77) (.const (.int .i64 1))⟩,
     ⟨(some 79), (some (75, true)), .pure, .indexAddr 1 (.tmp 76) (.tmp 78)⟩,
     ⟨(some 80), (some (75, true)), .read, .load false 1 (.tmp 79)⟩,
     ⟨(some 81), (some (75, true)), .pure, .mv (.tmp 0)⟩,
     ⟨(some 82), (some (75, true)), .pure, .mv (.tmp 11)⟩,
     ⟨(some 83), (some (75, true)), .pure, .indexAddr 1 (.tmp 81) (.tmp 82)⟩,
     ⟨(some 84), (some (75, true)), .read, .load false 1 (.tmp 83)⟩,
     ⟨(some 85), (some (75, true)), .act, .call 113 [(.tmp 80), (.tmp 84)]⟩,
     ⟨(some 86), (some (75, true)), .pure, .un .not (.tmp 85)⟩,
     ⟨(some 87), none, .pure, .pick (.tmp 75) (.tmp 86) (.const (.bool false))⟩])
   (.cond (.tmp 87)
    (.seq (.region [
      ⟨(some 88), none, .act, .mv (.tmp 0)⟩,
      ⟨(some 89), none, .act, .mv (.tmp 1)⟩,
      ⟨(some 90), none, .act, .mv (.tmp 2)⟩,
      ⟨(some 91), none, .act, .mv (.tmp 11)⟩,
      ⟨(some 92), none, .act, .call 114 [(.tmp 88), (.tmp 89), (.tmp 90), (.tmp 91)]⟩,
      ⟨(some 13), none, .act, .mv (.tmp 92)⟩])
    (.seq (.region [
      ⟨(some 93), none, .act, .mv (.tmp 13)⟩,
      ⟨(some 1), none, .act, .mv (.tmp 93)⟩])
    (.exit 1)))
    .skip))
   (.seq (.region [
     ⟨(some 95), none, .act, .mv (.tmp 0)⟩,
     ⟨(some 96), none, .act, .mv (.tmp 1)⟩,
     ⟨(some 97), none, .act, .mv (.tmp 2)⟩,
     ⟨(some 98), none, .act, .mv (.tmp 11)⟩,
     ⟨(some 99), none, .act, .call 115 [(.tmp 95), (.tmp 96), (.tmp 97), (.tmp 98)]⟩,
     ⟨(some 94), none, .act, .mv (.tmp 99)⟩,
     ⟨(some 100), none, .act, .extract (.tmp 94) 0⟩,
     ⟨(some 101), none, .act, .extract (.tmp 94) 1⟩,
     ⟨(some 14), none, .act, .mv (.tmp 100)⟩,
     ⟨(some 15), none, .act, .mv (.tmp 101)⟩])
   (.seq (.region [
     ⟨(some 102), none, .act, .mv (.tmp 15)⟩,
     ⟨(some 9), none, .act, .mv (.tmp 102)⟩])
   (.seq (.region [
     ⟨(some 103), none, .act, .mv (.tmp 14)⟩,
     ⟨(some 104), none, .act, .mv (.tmp 1)⟩,
     ⟨(some 105), none, .act, .bin .sub (.tmp 103) (.tmp 104)⟩,
     ⟨(some 106), none, .act, .mv (.tmp 2)⟩,
     ⟨(some 107), none, .act, .mv (.tmp 14)⟩,
     ⟨(some 108), none, .act, .bin .sub (.tmp 106) (.tmp 107)⟩,
     ⟨(some 16), none, .act, .mv (.tmp 105)⟩,
     ⟨(some 17), none, .act, .mv (.tmp 108)⟩])
   (.seq (.region [
     ⟨(some 109), none, .act, .mv (.tmp 10)⟩,
     ⟨(some 110), none, .act, .bin .quo (.tmp 109) (.const (.int .i64 8))⟩,
     ⟨(some 18), none, .act, .mv (.tmp 110)⟩])
   (.seq (.region [
     ⟨(some 111), none, .act, .mv (.tmp 16)⟩,
     ⟨(some 112), none, .act, .mv (.tmp 17)⟩,
     ⟨(some 113), none, .act, .bin .lss (.tmp 111) (.tmp 112)⟩])
   (.cond (.tmp 113)
    (.seq (.region [
      ⟨(some 114), none, .act, .mv (.tmp 16)⟩,
      ⟨(some 115), none, .act, .mv (.tmp 18)⟩,
      ⟨(some 116), none, .act, .bin .geq (.tmp 114) (.tmp 115)⟩,
      ⟨(some 8), none, .act, .mv (.tmp 116)⟩])
    (.seq (.region [
      ⟨(some 117), none, .act, .mv (.tmp 0)⟩,
      ⟨(some 118), none, .act, .mv (.tmp 1)⟩,
      ⟨(some 119), none, .act, .mv (.tmp 14)⟩,
      ⟨(some 120), none, .act, .mv (.tmp 3)⟩,
      ⟨(some 121), none, .act, .call 103 [(.tmp 117), (.tmp 118), (.tmp 119), (.tmp 120)]⟩])
    (.region [
      ⟨(some 122), none, .act, .mv (.tmp 14)⟩,
      ⟨(some 123), none, .act, .bin .add (.tmp 122) (.const (.int .i64 1))⟩,
      ⟨(some 1), none, .act, .mv (.tmp 123)⟩])))
    (.seq (.region [
      ⟨(some 124), none, .act, .mv (.tmp 17)⟩,
      ⟨(some 125), none, .act, .mv (.tmp 18)⟩,
      ⟨(some 126), none, .act, .bin .geq (.tmp 124) (.tmp 125)⟩,
      ⟨(some 8), none, .act, .mv (.tmp 126)⟩])
    (.seq (.region [
      ⟨(some 127), none, .act, .mv (.tmp 0)⟩,
      ⟨(some 128), none, .act, .mv (.tmp 14)⟩,
      ⟨(some 129), none, .act, .bin .add (.tmp 128) (.const (.int .i64 1))⟩,
      ⟨(some 130), none, .act, .mv (.tmp 2)⟩,
      ⟨(some 131), none, .act, .mv (.tmp 3)⟩,
      ⟨(some 132), none, .act, .call 103 [(.tmp 127), (.tmp 129), (.tmp 130), (.tmp 131)]⟩])
    (.region [
      ⟨(some 133), none, .act, .mv (.tmp 14)⟩,
      ⟨(some 2), none, .act, .mv (.tmp 133)⟩]))))))))))
def r103c : RCode :=
  (.seq (.seq (.region [
     ⟨(some 61), none, .act, .mv (.tmp 8)⟩,
     ⟨(some 62), none, .act, .mv (.tmp 61)⟩,
     ⟨(some 63), (some (62, true)), .act, .mv (.tmp 9)⟩,
     ⟨(some 64), none, .act, .pick (.tmp 62) (.tmp 63) (.const (.bool false))⟩,
     ⟨(some 65), none, .act, .mv (.tmp 64)⟩,
     ⟨(some 66), (some (65, true)), .act, .mv (.tmp 12)⟩,
     ⟨(some 67), (some (65, true)), .act, .eq false .int (.tmp 66) (.const (.int .i64 1))⟩,
     ⟨(some 68), none, .act, .pick (.tmp 65) (.tmp 67) (.const (.bool false))⟩])
   (.cond (.tmp 68)
    (.seq (.region [
      ⟨(some 69), none, .act, .mv (.tmp 0)⟩,
      ⟨(some 70), none, .act, .mv (.tmp 1)⟩,
      ⟨(some 71), none, .act, .mv (.tmp 2)⟩,
      ⟨(some 72), none, .act, .call 112 [(.tmp 69), (.tmp 70), (.tmp 71)]⟩])
    (.cond (.tmp 72)
     .ret
     .skip))
    .skip))
   (.seq (.seq (.region [
     ⟨(some 73), none, .pure, .mv (.tmp 1)⟩,
     ⟨(some 74), none, .pure, .bin .gtr (.tmp 73) (.const (.int .i64 0))⟩,
     ⟨(some 75), none, .pure, .mv (.tmp 74)⟩,
     ⟨(some 76), (some (75, true)), .pure, .mv (.tmp 0)⟩,
     ⟨(some 77), (some (75, true)), .pure, .mv (.tmp 1)⟩,
     ⟨(some 78), (some (75, true)), .pure, .bin .sub (.tmp 77) (.const (.int .i64 1))⟩,
     ⟨(some 79), (some (75, true)), .pure, .indexAddr 1 (.tmp 76) (.tmp 78)⟩,
     ⟨(some 80), (some (75, true)), .read, .load false 1 (.tmp 79)⟩,
     ⟨(some 81), (some (75, true)), .pure, .mv (.tmp 0)⟩,
     ⟨(some 82), (some (75, true)), .pure, .mv (.tmp 11)⟩,
     ⟨(some 83), (some (75, true)), .pure, .indexAddr 1 (.tmp 81) (.tmp 82)⟩,
     ⟨(some 84), (some (75, true)), .read, .load false 1 (.tmp 83)⟩,
     ⟨(some 85), (some (75, true)), .act, .call 113 [(.tmp 80), (.tmp 84)]⟩,
     ⟨(some 86), (some (75, true)), .pure, .un .not (.tmp 85)⟩,
     ⟨(some 87), none, .pure, .pick (.tmp 75) (.tmp 86) (.const (.bool false))⟩])
   (.cond (.tmp 87)
    (.seq (.region [
      ⟨(some 88), none, .act, .mv (.tmp 0)⟩,
      ⟨(some 89), none, .act, .mv (.tmp 1)⟩,
      ⟨(some 90), none, .act, .mv (.tmp 2)⟩,
      ⟨(some 91), none, .act, .mv (.tmp 11)⟩,
      ⟨(some 92), none, .act, .call 114 [(.tmp 88), (.tmp 89), (.tmp 90), (.tmp 91)]⟩,
      ⟨(some 13), none, .act, .mv (.tmp 92)⟩])
    (.seq (.region [
      ⟨(some 93), none, .act, .mv (.tmp 13)⟩,
      ⟨(some 1), none, .act, .mv (.tmp 93)⟩])
    (.exit 1)))
    .skip))
   (.seq (.region [
     ⟨(some 95), none, .act, .mv (.tmp 0)⟩,
     ⟨(some 96), none, .act, .mv (.tmp 1)⟩,
     ⟨(some 97), none, .act, .mv (.tmp 2)⟩,
     ⟨(some 98), none, .act, .mv (.tmp 11)⟩,
     ⟨(some 99), none, .act, .call 115 [(.tmp 95), (.tmp 96), (.tmp 97), (.tmp 98)]⟩,
     ⟨(some 94), none, .act, .mv (.tmp 99)⟩,
     ⟨(some 100), none, .act, .extract (.tmp 94) 0⟩,
     ⟨(some 101), none, .act, .extract (.tmp 94) 1⟩,
     ⟨(some 14), none, .act, .mv (.tmp 100)⟩,
     ⟨(some 15), none, .act, .mv (.tmp 101)⟩])
   (.seq (.region [
     ⟨(some 102), none, .act, .mv (.tmp 15)⟩,
     ⟨(some 9), none, .act, .mv (.tmp 102)⟩])
   (.seq (.region [
     ⟨(some 103), none, .act, .mv (.tmp 14)⟩,
     ⟨(some 104), none, .act, .mv (.tmp 1)⟩,
     ⟨(some 105), none, .act, .bin .sub (.tmp 103) (.tmp 104)⟩,
     ⟨(some 106), none, .act, .mv (.tmp 2)⟩,
     ⟨(some 107), none, .act, .mv (.tmp 14)⟩,
     ⟨(some 108), none, .act, .bin .sub (.tmp 106) (.tmp 107)⟩,
     ⟨(some 16), none, .act, .mv (.tmp 105)⟩,
     ⟨(some 17), none, .act, .mv (.tmp 108)⟩])
   (.seq (.region [
     ⟨(some 109), none, .act, .mv (.tmp 10)⟩,
     ⟨(some 110), none, .act, .bin .quo (.tmp 109) (.const (.int .i64 8))⟩,
     ⟨(some 18), none, .act, .mv (.tmp 110)⟩])
   (.seq (.region [
     ⟨(some 111), none, .act, .mv (.tmp 16)⟩,
     ⟨(some 112), none, .act, .mv (.tmp 17)⟩,
     ⟨(some 113), none, .act, .bin .lss (.tmp 111) (.tmp 112)⟩])
   (.cond (.tmp 113)
    (.seq (.region [
      ⟨(some 114), none, .act, .mv (.tmp 16)⟩,
      ⟨(some 115), none, .act, .mv (.tmp 18)⟩,
      ⟨(some 116), none, .act, .bin .geq (.tmp 114) (.tmp 115)⟩,
      ⟨(some 8), none, .act, .mv (.tmp 116)⟩])
    (.seq (.region [
      ⟨(some 117), none, .act, .mv (.tmp 0)⟩,
      ⟨(some 118), none, .act, .mv (.tmp 1)⟩,
      ⟨(some 119), none, .act, .mv (.tmp 14)⟩,
      ⟨(some 120), none, .act, .mv (.tmp 3)⟩,
      ⟨(some 121), none, .act, .call 103 [(.tmp 117), (.tmp 118), (.tmp 119), (.tmp 120)]⟩])
    (.region [
      ⟨(some 122), none, .act, .mv (.tmp 14)⟩,
      ⟨(some 123), none, .act, .bin .add (.tmp 122) (.const (.int .i64 1))⟩,
      ⟨(some 1), none, .act, .mv (.tmp 123)⟩])))
    (.seq (.region [
      ⟨(some 124), none, .act, .mv (.tmp 17)⟩,
      ⟨(some 125), none, .act, .mv (.tmp 18)⟩,
      ⟨(some 126), none, .act, .bin .geq (.tmp 124) (.tmp 125)⟩,
      ⟨(some 8), none, .act, .mv (.tmp 126)⟩])
    (.seq (.region [
      ⟨(some 127), none, .act, .mv (.tmp 0)⟩,
      ⟨(some 128), none, .act, .mv (.tmp 14)⟩,
      ⟨(some 129), none, .act, .bin .add (.tmp 128) (.const (.int .i64 1))⟩,
      ⟨(some 130), none, .act, .mv (.tmp 2)⟩,
      ⟨(some 131), none, .act, .mv (.tmp 3)⟩,
      ⟨(some 132), none, .act, .call 103 [(.tmp 127), (.tmp 129), (.tmp 130), (.tmp 131)]⟩])
    (.region [
      ⟨(some 133), none, .act, .mv (.tmp 14)⟩,
      ⟨(some 2), none, .act, .mv (.tmp 133)⟩])))))))))))
def r103b : RCode :=
  (.seq (.seq (.region [
     ⟨(some 49), none, .act, .mv (.tmp 12)⟩,
     ⟨(some 50), none, .act, .eq false .int (.tmp 49) (.const (.int .i64 2))⟩])
   (.cond (.tmp 50)
    (.seq (.region [
      ⟨(some 51), none, .act, .mv (.tmp 0)⟩,
      ⟨(some 52), none, .act, .mv (.tmp 1)⟩,
      ⟨(some 53), none, .act, .mv (.tmp 2)⟩,
      ⟨(some 54), none, .act, .call 111 [(.tmp 51), (.tmp 52), (.tmp 53)]⟩])
    (.seq (.region [
      ⟨(some 55), none, .act, .mv (.tmp 2)⟩,
      ⟨(some 56), none, .act, .bin .sub (.tmp 55) (.const (.int .i64 1))⟩,
      ⟨(some 57), none, .act, .mv (.tmp 11)⟩,
      ⟨(some 58), none, .act, .mv (.tmp 1)⟩,
      ⟨(some 59), none, .act, .bin .sub (.tmp 57) (.tmp 58)⟩,
      ⟨(some 60), none, .act, .bin .sub (.tmp 56) (.tmp 59)⟩,
      ⟨(some 11), none, .act, .mv (.tmp 60)⟩])
    (.region [
      ⟨(some 12), none, .act, .mv (.const (.int .i64 1))⟩])))
    .skip))
   (.seq (.seq (.region [
     ⟨(some 61), none, .act, .mv (.tmp 8)⟩,
     ⟨(some 62), none, .act, .mv (.tmp 61)⟩,
     ⟨(some 63), (some (62, true)), .act, .mv (.tmp 9)⟩,
     ⟨(some 64), none, .act, .pick (.tmp 62) (.tmp 63) (.const (.bool false))⟩,
     ⟨(some 65), none, .act, .mv (.tmp 64)⟩,
     ⟨(some 66), (some (65, true)), .act, .mv (.tmp 12)⟩,
     ⟨(some 67), (some (65, true)), .act, .eq false .int (.tmp 66) (.const (.int .i64 1))⟩,
     ⟨(some 68), none, .act, .pick (.tmp 65) (.tmp 67) (.const (.bool false))⟩])
   (.cond (.tmp 68)
    (.seq (.region [
      ⟨(some 69), none, .act, .mv (.tmp 0)⟩,
      ⟨(some 70), none, .act, .mv (.tmp 1)⟩,
      ⟨(some 71), none, .act, .mv (.tmp 2)⟩,
      ⟨(some 72), none, .act, .call 112 [(.tmp 69), (.tmp 70), (.tmp 71)]⟩])
    (.cond (.tmp 72)
     .ret
     .skip))
    .skip))
   (.seq (.seq (.region [
     ⟨(some 73), none, .pure, .mv (.tmp 1)⟩,
     ⟨(some 74), none, .pure, .bin .gtr (.tmp 73) (.const (.int .i64 0))⟩,
     ⟨(some 75), none, .pure, .mv (.tmp 74)⟩,
     ⟨(some 76), (some (75, true)), .pure, .mv (.tmp 0)⟩,
     ⟨(some 77), (some (75, true)), .pure, .mv (.tmp 1)⟩,
     ⟨(some 78), (some (75, true)), .pure, .bin .sub (.tmp 77) (.const (.int .i64 1))⟩,
     ⟨(some 79), (some (75, true)), .pure, .indexAddr 1 (.tmp 76) (.tmp 78)⟩,
     ⟨(some 80), (some (75, true)), .read, .load false 1 (.tmp 79)⟩,
     ⟨(some 81), (some (75, true)), .pure, .mv (.tmp 0)⟩,
     ⟨(some 82), (some (75, true)), .pure, .mv (.tmp 11)⟩,
     ⟨(some 83), (some (75, true)), .pure, .indexAddr 1 (.tmp 81) (.tmp 82)⟩,
     ⟨(some 84), (some (75, true)), .read, .load false 1 (.tmp 83)⟩,
     ⟨(some 85), (some (75, true)), .act, .call 113 [(.tmp 80), (.tmp 84)]⟩,
     ⟨(some 86), (some (75, true)), .pure, .un .not (.tmp 85)⟩,
     ⟨(some 87), none, .pure, .pick (.tmp 75) (.tmp 86) (.const (.bool false))⟩])
   (.cond (.tmp 87)
    (.seq (.region [
      ⟨(some 88), none, .act, .mv (.tmp 0)⟩,
      ⟨(some 89), none, .act, .mv (.tmp 1)⟩,
      ⟨(some 90), none, .act, .mv (.tmp 2)⟩,
      ⟨(some 91), none, .act, .mv (.tmp 11)⟩,
      ⟨(some 92), none, .act, .call 114 [(.tmp 88), (.tmp 89), (.tmp 90), (.tmp 91)]⟩,
      ⟨(some 13), none, .act, .mv (.tmp 92)⟩])
    (.seq (.region [
      ⟨(some 93), none, .act, .mv (.tmp 13)⟩,
      ⟨(some 1), none, .act, .mv (.tmp 93)⟩])
    (.exit 1)))
    .skip))
   (.seq (.region [
     ⟨(some 95), none, .act, .mv (.tmp 0)⟩,
     ⟨(some 96), none, .act, .mv (.tmp 1)⟩,
     ⟨(some 97), none, .act, .mv (.tmp 2)⟩,
     ⟨(some 98), none, .act, .mv (.tmp 11)⟩,
     ⟨(some 99), none, .act, .call 115 [(.tmp 95), (.tmp 96), (.tmp 97), (.tmp 98)]⟩,
     ⟨(some 94), none, .act, .mv (.tmp 99)⟩,
     ⟨(some 100), none, .act, .extract (.tmp 94) 0⟩,
     ⟨(some 101), none, .act, .extract (.tmp 94) 1⟩,
     ⟨(some 14), none, .act, .mv (.tmp 100)⟩,
     ⟨(some 15), none, .act, .mv (.tmp 101)⟩])
   (.seq (.region [
     ⟨(some 102), none, .act, .mv (.tmp 15)⟩,
     ⟨(some 9), none, .act, .mv (.tmp 102)⟩])
   (.seq (.region [
     ⟨(some 103), none, .act, .mv (.tmp 14)⟩,
     ⟨(some 104), none, .act, .mv (.tmp 1)⟩,
     ⟨(some 105), none, .act, .bin .sub (.tmp 103) (.tmp 104)⟩,
     ⟨(some 106), none, .act, .mv (.tmp 2)⟩,
     ⟨(some 107), none, .act, .mv (.tmp 14)⟩,
     ⟨(some 108), none, .act, .bin .sub (.tmp 106) (.tmp 107)⟩,
     ⟨(some 16), none, .act, .mv (.tmp 105)⟩,
     ⟨(some 17), none, .act, .mv (.tmp 108)⟩])
   (.seq (.region [
     ⟨(some 109), none, .act, .mv (.tmp 10)⟩,
     ⟨(some 110), none, .act, .bin .quo (.tmp 109) (.const (.int .i64 8))⟩,
     ⟨(some 18), none, .act, .mv (.tmp 110)⟩])
   (.seq (.region [
     ⟨(some 111), none, .act, .mv (.tmp 16)⟩,
     ⟨(some 112), none, .act, .mv (.tmp 17)⟩,
     ⟨(some 113), none, .act, .bin .lss (.tmp 111) (.tmp 112)⟩])
   (.cond (.tmp 113)
    (.seq (.region [
      ⟨(some 114), none, .act, .mv (.tmp 16)⟩,
      ⟨(some 115), none, .act, .mv (.tmp 18)⟩,
      ⟨(some 116), none, .act, .bin .geq (.tmp 114) (.tmp 115)⟩,
      ⟨(some 8), none, .act, .mv (.tmp 116)⟩])
    (.seq (.region [
      ⟨(some 117), none, .act, .mv (.tmp 0)⟩,
      ⟨(some 118), none, .act, .mv (.tmp 1)⟩,
      ⟨(some 119), none, .act, .mv (.tmp 14)⟩,
      ⟨(some 120), none, .act, .mv (.tmp 3)⟩,
      ⟨(some 121), none, .act, .call 103 [(.tmp 117), (.tmp 118), (.tmp 119), (.tmp 120)]⟩])
    (.region [
      ⟨(some 122), none, .act, .mv (.tmp 14)⟩,
      ⟨(some 123), none, .act, .bin .add (.tmp 122) (.const (.int .i64 1))⟩,
      ⟨(some 1), none, .act, .mv (.tmp 123)⟩])))
    (.seq (.region [
      ⟨(some 124), none, .act, .mv (.tmp 17)⟩,
      ⟨(some 125), none, .act, .mv (.tmp 18)⟩,
      ⟨(some 126), none, .act, .bin .geq (.tmp 124) (.tmp 125)⟩,
      ⟨(some 8), none, .act, .mv (.tmp 126)⟩])
    (.seq (.region [
      ⟨(some 127), none, .act, .mv (.tmp 0)⟩,
      ⟨(some 128), none, .act, .mv (.tmp 14)⟩,
      ⟨(some 129), none, .act, .bin .add (.tmp 128) (.const (.int .i64 1))⟩,
      ⟨(some 130), none, .act, .mv (.tmp 2)⟩,
      ⟨(some 131), none, .act, .mv (.tmp 3)⟩,
      ⟨(some 132), none, .act, .call 103 [(.tmp 127), (.tmp 129), (.tmp 130), (.tmp 131)]⟩])
    (.region [
      ⟨(some 133), none, .act, .mv (.tmp 14)⟩,
      ⟨(some 2), none, .act, .mv (.tmp 133)⟩]))))))))))))

theorem pdq_E {q cap n f : Nat} {sp : List AV} {h : AHeap} (hA : PdqAll q cap n sp h f) (hn : n ≤ 49) (a e pivot limit : Nat) (d : Array SE) (G : Array SE → Prop) (hf : e - a ≤ f) (hap : a ≤ pivot) (hpe : pivot < e) (he : e ≤ n) (hd : d.size = n) (hB : Below ltE a e d) (hl : limit ≤ 100)
    (hR : ∀ d', d'.size = n → PermIn a e d d' → SortedIn ltE a e d' → G d') :
    RRun Try.prog Try.f103 134 [.code r103e, .inBlock 1, .inLoop r103l0, .inBlock 0] (Env.get [(0, slAt q 0 n cap), (1, i64 a), (2, i64 e), (3, i64 limit), (10, i64 (e - a : Nat)), (11, i64 pivot)]) (HL h q d.toList sp) (fun _ h' => ∃ d', G d' ∧ h' = HL h q d'.toList sp) := by
  unfold r103e
  repeat' (first | refine S.nilK ?_ | (refine S.op rfl ?_; first | refine R.mv rfl ?_ | refine R.loadR rfl rfl ?_ | refine R.load (by decide) rfl (by first | assumption | exact AHeap.set_same _ _ _) rfl ?_ | refine S.addI rfl rfl (by omega) ?_ | refine S.subI rfl rfl (by omega) ?_ | refine S.addU rfl rfl ?_ | refine S.subU rfl rfl ?_ | refine S.addUc rfl (by decide) ?_ | refine S.subUc rfl (by decide) ?_ | refine S.arith rfl rfl rfl ?_ | refine R.pickT rfl rfl ?_ | refine R.pickF rfl rfl ?_ | refine R.not rfl ?_ | refine R.eqPtrNil rfl rfl ?_ | refine R.extract rfl rfl ?_ | ((first | refine S.lss rfl rfl ?_ ?_ | refine S.gtr rfl rfl ?_ ?_ | refine S.leq rfl rfl ?_ ?_ | refine S.geq rfl rfl ?_ ?_ | refine S.eqInt rfl rfl ?_ ?_) <;> intro hlt <;> try (exfalso; omega))) | refine S.skip rfl ?_ | refine S.skip0 rfl ?_ | refine S.seq ?_ | refine S.region ?_ | refine S.condT rfl ?_ | refine S.condF rfl ?_ | refine RRun.skip ?_ | refine RRun.block ?_ | refine RRun.inBlock ?_ | refine RRun.exit rfl ?_)
  refine S.op rfl (R.call rfl rfl ((partition_spec q cap n a e pivot sp h (by omega) he (by omega) hap hpe d hd).mono ?_))
  rintro x1 h1 ⟨mid, ap, d4, hx, rfl, rfl, hd4⟩
  obtain ⟨m1, m2, m3, m4, m5, m6, m7⟩ := Go.Sort.round_part swo_ltE (Go.Sort.partition_holds ltE) hap hpe (by omega) hB hx
  by_cases hlr : mid - a < e - mid
  ·
    repeat' (first | (refine S.op0 rfl (S.stE rfl rfl rfl (by simp only [List.length_set, Array.length_toList]; omega) ?_)) | refine S.nilK ?_ | (refine S.op rfl ?_; first | refine S.addNN (n := 1) rfl rfl (by omega) ?_ | refine S.addNN rfl rfl (by omega) ?_ | refine S.subNN (n := 1) rfl rfl (by omega) (by omega) ?_ | refine S.subNN rfl rfl (by omega) (by omega) ?_ | refine S.ix rfl rfl (by omega) ?_ | refine S.ldE (by decide) rfl (by omega) ?_ | refine S.quoNN (n := 8) rfl rfl (by decide) (by omega) ?_ | refine R.mv rfl ?_ | refine R.loadR rfl rfl ?_ | refine R.load (by decide) rfl (by first | assumption | exact AHeap.set_same _ _ _) rfl ?_ | refine S.addI rfl rfl (by omega) ?_ | refine S.subI rfl rfl (by omega) ?_ | refine S.addU rfl rfl ?_ | refine S.subU rfl rfl ?_ | refine S.addUc rfl (by decide) ?_ | refine S.subUc rfl (by decide) ?_ | refine S.arith rfl rfl rfl ?_ | refine R.pickT rfl rfl ?_ | refine R.pickF rfl rfl ?_ | refine R.not rfl ?_ | refine R.eqPtrNil rfl rfl ?_ | refine R.extract rfl rfl ?_ | ((first | refine S.lss rfl rfl ?_ ?_ | refine S.gtr rfl rfl ?_ ?_ | refine S.leq rfl rfl ?_ ?_ | refine S.geq rfl rfl ?_ ?_ | refine S.eqInt rfl rfl ?_ ?_) <;> intro hlt <;> try (exfalso; omega))) | refine S.skip rfl ?_ | refine S.skip0 rfl ?_ | refine S.seq ?_ | refine S.region ?_ | refine S.condT rfl ?_ | refine S.condF rfl ?_ | refine RRun.skip ?_ | refine RRun.block ?_ | refine RRun.inBlock ?_ | refine RRun.exit rfl ?_)
    all_goals
      refine S.op rfl (R.call rfl rfl ((pdq_call hA a mid limit d4 (by omega) m1 (by omega) hd4 m4 hl).mono ?_))
      rintro x2 h2 ⟨d5, ⟨g1, g2, g3⟩, rfl⟩
      obtain ⟨k1, k2⟩ := m6 d5 g2 g3
      repeat' (first | (refine S.op0 rfl (S.stE rfl rfl rfl (by simp only [List.length_set, Array.length_toList]; omega) ?_)) | refine S.nilK ?_ | (refine S.op rfl ?_; first | refine S.addNN (n := 1) rfl rfl (by omega) ?_ | refine S.addNN rfl rfl (by omega) ?_ | refine S.subNN (n := 1) rfl rfl (by omega) (by omega) ?_ | refine S.subNN rfl rfl (by omega) (by omega) ?_ | refine S.ix rfl rfl (by omega) ?_ | refine S.ldE (by decide) rfl (by omega) ?_ | refine R.mv rfl ?_ | refine R.loadR rfl rfl ?_ | refine R.load (by decide) rfl (by first | assumption | exact AHeap.set_same _ _ _) rfl ?_ | refine S.addI rfl rfl (by omega) ?_ | refine S.subI rfl rfl (by omega) ?_ | refine S.addU rfl rfl ?_ | refine S.subU rfl rfl ?_ | refine S.addUc rfl (by decide) ?_ | refine S.subUc rfl (by decide) ?_ | refine S.arith rfl rfl rfl ?_ | refine R.pickT rfl rfl ?_ | refine R.pickF rfl rfl ?_ | refine R.not rfl ?_ | refine R.eqPtrNil rfl rfl ?_ | refine R.extract rfl rfl ?_ | ((first | refine S.lss rfl rfl ?_ ?_ | refine S.gtr rfl rfl ?_ ?_ | refine S.leq rfl rfl ?_ ?_ | refine S.geq rfl rfl ?_ ?_ | refine S.eqInt rfl rfl ?_ ?_) <;> intro hlt <;> try (exfalso; omega))) | refine S.skip rfl ?_ | refine S.skip0 rfl ?_ | refine S.seq ?_ | refine S.region ?_ | refine S.condT rfl ?_ | refine S.condF rfl ?_ | refine RRun.skip ?_ | refine RRun.block ?_ | refine RRun.inBlock ?_ | refine RRun.exit rfl ?_)
      exact S.keep [0, 1, 2, 3, 8, 9] rfl (hA (mid + 1) e d5 G (by omega) (by omega) he g1 k1 (fun d' s1 s2 s3 => hR d' s1 (k2 d' s2 s3).1 (k2 d' s2 s3).2) limit _ ap hl)
  ·
    repeat' (first | (refine S.op0 rfl (S.stE rfl rfl rfl (by simp only [List.length_set, Array.length_toList]; omega) ?_)) | refine S.nilK ?_ | (refine S.op rfl ?_; first | refine S.addNN (n := 1) rfl rfl (by omega) ?_ | refine S.addNN rfl rfl (by omega) ?_ | refine S.subNN (n := 1) rfl rfl (by omega) (by omega) ?_ | refine S.subNN rfl rfl (by omega) (by omega) ?_ | refine S.ix rfl rfl (by omega) ?_ | refine S.ldE (by decide) rfl (by omega) ?_ | refine S.quoNN (n := 8) rfl rfl (by decide) (by omega) ?_ | refine R.mv rfl ?_ | refine R.loadR rfl rfl ?_ | refine R.load (by decide) rfl (by first | assumption | exact AHeap.set_same _ _ _) rfl ?_ | refine S.addI rfl rfl (by omega) ?_ | refine S.subI rfl rfl (by omega) ?_ | refine S.addU rfl rfl ?_ | refine S.subU rfl rfl ?_ | refine S.addUc rfl (by decide) ?_ | refine S.subUc rfl (by decide) ?_ | refine S.arith rfl rfl rfl ?_ | refine R.pickT rfl rfl ?_ | refine R.pickF rfl rfl ?_ | refine R.not rfl ?_ | refine R.eqPtrNil rfl rfl ?_ | refine R.extract rfl rfl ?_ | ((first | refine S.lss rfl rfl ?_ ?_ | refine S.gtr rfl rfl ?_ ?_ | refine S.leq rfl rfl ?_ ?_ | refine S.geq rfl rfl ?_ ?_ | refine S.eqInt rfl rfl ?_ ?_) <;> intro hlt <;> try (exfalso; omega))) | refine S.skip rfl ?_ | refine S.skip0 rfl ?_ | refine S.seq ?_ | refine S.region ?_ | refine S.condT rfl ?_ | refine S.condF rfl ?_ | refine RRun.skip ?_ | refine RRun.block ?_ | refine RRun.inBlock ?_ | refine RRun.exit rfl ?_)
    all_goals
      refine S.op rfl (R.call rfl rfl ((pdq_call hA (mid + 1) e limit d4 (by omega) (by omega) he hd4 m5 hl).mono ?_))
      rintro x2 h2 ⟨d5, ⟨g1, g2, g3⟩, rfl⟩
      obtain ⟨k1, k2⟩ := m7 d5 g2 g3
      repeat' (first | (refine S.op0 rfl (S.stE rfl rfl rfl (by simp only [List.length_set, Array.length_toList]; omega) ?_)) | refine S.nilK ?_ | (refine S.op rfl ?_; first | refine S.addNN (n := 1) rfl rfl (by omega) ?_ | refine S.addNN rfl rfl (by omega) ?_ | refine S.subNN (n := 1) rfl rfl (by omega) (by omega) ?_ | refine S.subNN rfl rfl (by omega) (by omega) ?_ | refine S.ix rfl rfl (by omega) ?_ | refine S.ldE (by decide) rfl (by omega) ?_ | refine R.mv rfl ?_ | refine R.loadR rfl rfl ?_ | refine R.load (by decide) rfl (by first | assumption | exact AHeap.set_same _ _ _) rfl ?_ | refine S.addI rfl rfl (by omega) ?_ | refine S.subI rfl rfl (by omega) ?_ | refine S.addU rfl rfl ?_ | refine S.subU rfl rfl ?_ | refine S.addUc rfl (by decide) ?_ | refine S.subUc rfl (by decide) ?_ | refine S.arith rfl rfl rfl ?_ | refine R.pickT rfl rfl ?_ | refine R.pickF rfl rfl ?_ | refine R.not rfl ?_ | refine R.eqPtrNil rfl rfl ?_ | refine R.extract rfl rfl ?_ | ((first | refine S.lss rfl rfl ?_ ?_ | refine S.gtr rfl rfl ?_ ?_ | refine S.leq rfl rfl ?_ ?_ | refine S.geq rfl rfl ?_ ?_ | refine S.eqInt rfl rfl ?_ ?_) <;> intro hlt <;> try (exfalso; omega))) | refine S.skip rfl ?_ | refine S.skip0 rfl ?_ | refine S.seq ?_ | refine S.region ?_ | refine S.condT rfl ?_ | refine S.condF rfl ?_ | refine RRun.skip ?_ | refine RRun.block ?_ | refine RRun.inBlock ?_ | refine RRun.exit rfl ?_)
      exact S.keep [0, 1, 2, 3, 8, 9] rfl (hA a mid d5 G (by omega) (by omega) (by omega) g1 k1 (fun d' s1 s2 s3 => hR d' s1 (k2 d' s2 s3).1 (k2 d' s2 s3).2) limit _ ap hl)

theorem pdq_D {q cap n f : Nat} {sp : List AV} {h : AHeap} (hA : PdqAll q cap n sp h f) (hn : n ≤ 49) (a e pivot limit : Nat) (wB wP : Bool) (d : Array SE) (G : Array SE → Prop) (hf : e - a ≤ f) (hap : a ≤ pivot) (hpe : pivot < e) (he : e ≤ n) (hd : d.size = n) (hB : Below ltE a e d) (hl : limit ≤ 100)
    (hR : ∀ d', d'.size = n → PermIn a e d d' → SortedIn ltE a e d' → G d') :
    RRun Try.prog Try.f103 134 [.code r103d, .inBlock 1, .inLoop r103l0, .inBlock 0] (Env.get [(0, slAt q 0 n cap), (1, i64 a), (2, i64 e), (3, i64 limit), (8, bl wB), (9, bl wP), (10, i64 (e - a : Nat)), (11, i64 pivot)]) (HL h q d.toList sp) (fun _ h' => ∃ d', G d' ∧ h' = HL h q d'.toList sp) := by
  unfold r103d
  by_cases ha0 : a > 0
  · cases hnl : ltE d[a - 1]! d[pivot]! with
    | true =>
      repeat' (first | ((show RRun _ _ _ (.code r103e :: _) _ _ _; exact S.keep [0, 1, 2, 3, 10, 11] rfl (pdq_E hA hn a e pivot limit d G hf hap hpe he hd hB hl hR))) | (refine S.op0 rfl (S.stE rfl rfl rfl (by simp only [List.length_set, Array.length_toList]; omega) ?_)) | refine S.nilK ?_ | (refine S.op rfl ?_; first | refine S.addNN (n := 1) rfl rfl (by omega) ?_ | refine S.addNN rfl rfl (by omega) ?_ | refine S.subNN (n := 1) rfl rfl (by omega) (by omega) ?_ | refine S.subNN rfl rfl (by omega) (by omega) ?_ | refine S.ix rfl rfl (by omega) ?_ | refine S.ldE (by decide) rfl (by omega) ?_ | refine callS rfl rfl (less_is hnl _) ?_ | refine R.mv rfl ?_ | refine R.loadR rfl rfl ?_ | refine R.load (by decide) rfl (by first | assumption | exact AHeap.set_same _ _ _) rfl ?_ | refine S.addI rfl rfl (by omega) ?_ | refine S.subI rfl rfl (by omega) ?_ | refine S.addU rfl rfl ?_ | refine S.subU rfl rfl ?_ | refine S.addUc rfl (by decide) ?_ | refine S.subUc rfl (by decide) ?_ | refine S.arith rfl rfl rfl ?_ | refine R.pickT rfl rfl ?_ | refine R.pickF rfl rfl ?_ | refine R.not rfl ?_ | refine R.eqPtrNil rfl rfl ?_ | refine R.extract rfl rfl ?_ | ((first | refine S.lss rfl rfl ?_ ?_ | refine S.gtr rfl rfl ?_ ?_ | refine S.leq rfl rfl ?_ ?_ | refine S.geq rfl rfl ?_ ?_ | refine S.eqInt rfl rfl ?_ ?_) <;> intro hlt <;> try (exfalso; omega))) | refine S.skip rfl ?_ | refine S.skip0 rfl ?_ | refine S.seq ?_ | refine S.region ?_ | refine S.condT rfl ?_ | refine S.condF rfl ?_ | refine RRun.skip ?_ | refine RRun.block ?_ | refine RRun.inBlock ?_ | refine RRun.exit rfl ?_)
    | false =>
      repeat' (first | (refine S.op0 rfl (S.stE rfl rfl rfl (by simp only [List.length_set, Array.length_toList]; omega) ?_)) | refine S.nilK ?_ | (refine S.op rfl ?_; first | refine S.addNN (n := 1) rfl rfl (by omega) ?_ | refine S.addNN rfl rfl (by omega) ?_ | refine S.subNN (n := 1) rfl rfl (by omega) (by omega) ?_ | refine S.subNN rfl rfl (by omega) (by omega) ?_ | refine S.ix rfl rfl (by omega) ?_ | refine S.ldE (by decide) rfl (by omega) ?_ | refine callS rfl rfl (less_is hnl _) ?_ | refine R.mv rfl ?_ | refine R.loadR rfl rfl ?_ | refine R.load (by decide) rfl (by first | assumption | exact AHeap.set_same _ _ _) rfl ?_ | refine S.addI rfl rfl (by omega) ?_ | refine S.subI rfl rfl (by omega) ?_ | refine S.addU rfl rfl ?_ | refine S.subU rfl rfl ?_ | refine S.addUc rfl (by decide) ?_ | refine S.subUc rfl (by decide) ?_ | refine S.arith rfl rfl rfl ?_ | refine R.pickT rfl rfl ?_ | refine R.pickF rfl rfl ?_ | refine R.not rfl ?_ | refine R.eqPtrNil rfl rfl ?_ | refine R.extract rfl rfl ?_ | ((first | refine S.lss rfl rfl ?_ ?_ | refine S.gtr rfl rfl ?_ ?_ | refine S.leq rfl rfl ?_ ?_ | refine S.geq rfl rfl ?_ ?_ | refine S.eqInt rfl rfl ?_ ?_) <;> intro hlt <;> try (exfalso; omega))) | refine S.skip rfl ?_ | refine S.skip0 rfl ?_ | refine S.seq ?_ | refine S.region ?_ | refine S.condT rfl ?_ | refine S.condF rfl ?_ | refine RRun.skip ?_ | refine RRun.block ?_ | refine RRun.inBlock ?_ | refine RRun.exit rfl ?_)
      refine S.op rfl (R.call rfl rfl ((partitionEqual_spec q cap n a e pivot sp h (by omega) he (by omega) hap hpe d hd).mono ?_))
      rintro x1 h1 ⟨mid, d4, hx, rfl, rfl, hd4⟩
      obtain ⟨m1, m2, m3, m4, m5⟩ := Go.Sort.round_eq swo_ltE (Go.Sort.partitionEqual_holds ltE) ha0 hap hpe (by omega) hB hnl hx
      repeat' (first | refine S.nilK ?_ | (refine S.op rfl ?_; first | refine R.mv rfl ?_ | refine R.loadR rfl rfl ?_ | refine R.load (by decide) rfl (by first | assumption | exact AHeap.set_same _ _ _) rfl ?_ | refine S.addI rfl rfl (by omega) ?_ | refine S.subI rfl rfl (by omega) ?_ | refine S.addU rfl rfl ?_ | refine S.subU rfl rfl ?_ | refine S.addUc rfl (by decide) ?_ | refine S.subUc rfl (by decide) ?_ | refine S.arith rfl rfl rfl ?_ | refine R.pickT rfl rfl ?_ | refine R.pickF rfl rfl ?_ | refine R.not rfl ?_ | refine R.eqPtrNil rfl rfl ?_ | refine R.extract rfl rfl ?_ | ((first | refine S.lss rfl rfl ?_ ?_ | refine S.gtr rfl rfl ?_ ?_ | refine S.leq rfl rfl ?_ ?_ | refine S.geq rfl rfl ?_ ?_ | refine S.eqInt rfl rfl ?_ ?_) <;> intro hlt <;> try (exfalso; omega))) | refine S.skip rfl ?_ | refine S.skip0 rfl ?_ | refine S.seq ?_ | refine S.region ?_ | refine S.condT rfl ?_ | refine S.condF rfl ?_ | refine RRun.skip ?_ | refine RRun.block ?_ | refine RRun.inBlock ?_ | refine RRun.exit rfl ?_)
      exact S.keep [0, 1, 2, 3, 8, 9] rfl (hA mid e d4 G (by omega) (by omega) he hd4 m4 (fun d' s1 s2 s3 => hR d' s1 (m5 d' s2 s3).1 (m5 d' s2 s3).2) limit wB wP hl)
  ·
    repeat' (first | ((show RRun _ _ _ (.code r103e :: _) _ _ _; exact S.keep [0, 1, 2, 3, 10, 11] rfl (pdq_E hA hn a e pivot limit d G hf hap hpe he hd hB hl hR))) | (refine S.op0 rfl (S.stE rfl rfl rfl (by simp only [List.length_set, Array.length_toList]; omega) ?_)) | refine S.nilK ?_ | (refine S.op rfl ?_; first | refine S.addNN (n := 1) rfl rfl (by omega) ?_ | refine S.addNN rfl rfl (by omega) ?_ | refine S.subNN (n := 1) rfl rfl (by omega) (by omega) ?_ | refine S.subNN rfl rfl (by omega) (by omega) ?_ | refine S.ix rfl rfl (by omega) ?_ | refine S.ldE (by decide) rfl (by omega) ?_ | refine R.mv rfl ?_ | refine R.loadR rfl rfl ?_ | refine R.load (by decide) rfl (by first | assumption | exact AHeap.set_same _ _ _) rfl ?_ | refine S.addI rfl rfl (by omega) ?_ | refine S.subI rfl rfl (by omega) ?_ | refine S.addU rfl rfl ?_ | refine S.subU rfl rfl ?_ | refine S.addUc rfl (by decide) ?_ | refine S.subUc rfl (by decide) ?_ | refine S.arith rfl rfl rfl ?_ | refine R.pickT rfl rfl ?_ | refine R.pickF rfl rfl ?_ | refine R.not rfl ?_ | refine R.eqPtrNil rfl rfl ?_ | refine R.extract rfl rfl ?_ | ((first | refine S.lss rfl rfl ?_ ?_ | refine S.gtr rfl rfl ?_ ?_ | refine S.leq rfl rfl ?_ ?_ | refine S.geq rfl rfl ?_ ?_ | refine S.eqInt rfl rfl ?_ ?_) <;> intro hlt <;> try (exfalso; omega))) | refine S.skip rfl ?_ | refine S.skip0 rfl ?_ | refine S.seq ?_ | refine S.region ?_ | refine S.condT rfl ?_ | refine S.condF rfl ?_ | refine RRun.skip ?_ | refine RRun.block ?_ | refine RRun.inBlock ?_ | refine RRun.exit rfl ?_)

theorem pdq_C {q cap n f : Nat} {sp : List AV} {h : AHeap} (hA : PdqAll q cap n sp h f) (hn : n ≤ 49) (a e pivot limit t : Nat) (wB wP : Bool) (d : Array SE) (G : Array SE → Prop) (hf : e - a ≤ f) (hap : a ≤ pivot) (hpe : pivot < e) (he : e ≤ n) (hd : d.size = n) (hB : Below ltE a e d) (hl : limit ≤ 100)
    (hR : ∀ d', d'.size = n → PermIn a e d d' → SortedIn ltE a e d' → G d') :
    RRun Try.prog Try.f103 134 [.code r103c, .inBlock 1, .inLoop r103l0, .inBlock 0] (Env.get [(0, slAt q 0 n cap), (1, i64 a), (2, i64 e), (3, i64 limit), (8, bl wB), (9, bl wP), (10, i64 (e - a : Nat)), (11, i64 pivot), (12, i64 t)]) (HL h q d.toList sp) (fun _ h' => ∃ d', G d' ∧ h' = HL h q d'.toList sp) := by
  unfold r103c
  have next := pdq_D hA hn a e pivot limit wB wP d G hf hap hpe he hd hB hl hR
  by_cases ht : t = 1
  · subst ht
    cases wB <;> cases wP
    ·
      repeat' (first | ((show RRun _ _ _ (.code r103d :: _) _ _ _; exact S.keep [0, 1, 2, 3, 8, 9, 10, 11] rfl next)) | refine S.nilK ?_ | (refine S.op rfl ?_; first | refine R.mv rfl ?_ | refine R.loadR rfl rfl ?_ | refine R.load (by decide) rfl (by first | assumption | exact AHeap.set_same _ _ _) rfl ?_ | refine S.addI rfl rfl (by omega) ?_ | refine S.subI rfl rfl (by omega) ?_ | refine S.addU rfl rfl ?_ | refine S.subU rfl rfl ?_ | refine S.addUc rfl (by decide) ?_ | refine S.subUc rfl (by decide) ?_ | refine S.arith rfl rfl rfl ?_ | refine R.pickT rfl rfl ?_ | refine R.pickF rfl rfl ?_ | refine R.not rfl ?_ | refine R.eqPtrNil rfl rfl ?_ | refine R.extract rfl rfl ?_ | ((first | refine S.lss rfl rfl ?_ ?_ | refine S.gtr rfl rfl ?_ ?_ | refine S.leq rfl rfl ?_ ?_ | refine S.geq rfl rfl ?_ ?_ | refine S.eqInt rfl rfl ?_ ?_) <;> intro hlt <;> try (exfalso; omega))) | refine S.skip rfl ?_ | refine S.skip0 rfl ?_ | refine S.seq ?_ | refine S.region ?_ | refine S.condT rfl ?_ | refine S.condF rfl ?_ | refine RRun.skip ?_ | refine RRun.block ?_ | refine RRun.inBlock ?_ | refine RRun.exit rfl ?_)
    ·
      repeat' (first | ((show RRun _ _ _ (.code r103d :: _) _ _ _; exact S.keep [0, 1, 2, 3, 8, 9, 10, 11] rfl next)) | refine S.nilK ?_ | (refine S.op rfl ?_; first | refine R.mv rfl ?_ | refine R.loadR rfl rfl ?_ | refine R.load (by decide) rfl (by first | assumption | exact AHeap.set_same _ _ _) rfl ?_ | refine S.addI rfl rfl (by omega) ?_ | refine S.subI rfl rfl (by omega) ?_ | refine S.addU rfl rfl ?_ | refine S.subU rfl rfl ?_ | refine S.addUc rfl (by decide) ?_ | refine S.subUc rfl (by decide) ?_ | refine S.arith rfl rfl rfl ?_ | refine R.pickT rfl rfl ?_ | refine R.pickF rfl rfl ?_ | refine R.not rfl ?_ | refine R.eqPtrNil rfl rfl ?_ | refine R.extract rfl rfl ?_ | ((first | refine S.lss rfl rfl ?_ ?_ | refine S.gtr rfl rfl ?_ ?_ | refine S.leq rfl rfl ?_ ?_ | refine S.geq rfl rfl ?_ ?_ | refine S.eqInt rfl rfl ?_ ?_) <;> intro hlt <;> try (exfalso; omega))) | refine S.skip rfl ?_ | refine S.skip0 rfl ?_ | refine S.seq ?_ | refine S.region ?_ | refine S.condT rfl ?_ | refine S.condF rfl ?_ | refine RRun.skip ?_ | refine RRun.block ?_ | refine RRun.inBlock ?_ | refine RRun.exit rfl ?_)
    ·
      repeat' (first | ((show RRun _ _ _ (.code r103d :: _) _ _ _; exact S.keep [0, 1, 2, 3, 8, 9, 10, 11] rfl next)) | refine S.nilK ?_ | (refine S.op rfl ?_; first | refine R.mv rfl ?_ | refine R.loadR rfl rfl ?_ | refine R.load (by decide) rfl (by first | assumption | exact AHeap.set_same _ _ _) rfl ?_ | refine S.addI rfl rfl (by omega) ?_ | refine S.subI rfl rfl (by omega) ?_ | refine S.addU rfl rfl ?_ | refine S.subU rfl rfl ?_ | refine S.addUc rfl (by decide) ?_ | refine S.subUc rfl (by decide) ?_ | refine S.arith rfl rfl rfl ?_ | refine R.pickT rfl rfl ?_ | refine R.pickF rfl rfl ?_ | refine R.not rfl ?_ | refine R.eqPtrNil rfl rfl ?_ | refine R.extract rfl rfl ?_ | ((first | refine S.lss rfl rfl ?_ ?_ | refine S.gtr rfl rfl ?_ ?_ | refine S.leq rfl rfl ?_ ?_ | refine S.geq rfl rfl ?_ ?_ | refine S.eqInt rfl rfl ?_ ?_) <;> intro hlt <;> try (exfalso; omega))) | refine S.skip rfl ?_ | refine S.skip0 rfl ?_ | refine S.seq ?_ | refine S.region ?_ | refine S.condT rfl ?_ | refine S.condF rfl ?_ | refine RRun.skip ?_ | refine RRun.block ?_ | refine RRun.inBlock ?_ | refine RRun.exit rfl ?_)
    ·
      repeat' (first | refine S.nilK ?_ | (refine S.op rfl ?_; first | refine R.mv rfl ?_ | refine R.loadR rfl rfl ?_ | refine R.load (by decide) rfl (by first | assumption | exact AHeap.set_same _ _ _) rfl ?_ | refine S.addI rfl rfl (by omega) ?_ | refine S.subI rfl rfl (by omega) ?_ | refine S.addU rfl rfl ?_ | refine S.subU rfl rfl ?_ | refine S.addUc rfl (by decide) ?_ | refine S.subUc rfl (by decide) ?_ | refine S.arith rfl rfl rfl ?_ | refine R.pickT rfl rfl ?_ | refine R.pickF rfl rfl ?_ | refine R.not rfl ?_ | refine R.eqPtrNil rfl rfl ?_ | refine R.extract rfl rfl ?_ | ((first | refine S.lss rfl rfl ?_ ?_ | refine S.gtr rfl rfl ?_ ?_ | refine S.leq rfl rfl ?_ ?_ | refine S.geq rfl rfl ?_ ?_ | refine S.eqInt rfl rfl ?_ ?_) <;> intro hlt <;> try (exfalso; omega))) | refine S.skip rfl ?_ | refine S.skip0 rfl ?_ | refine S.seq ?_ | refine S.region ?_ | refine S.condT rfl ?_ | refine S.condF rfl ?_ | refine RRun.skip ?_ | refine RRun.block ?_ | refine RRun.inBlock ?_ | refine RRun.exit rfl ?_)
      refine S.op rfl (R.call rfl rfl ((partialIns_spec q cap n a e sp h (by omega) he (by omega) (by omega) d hd hB).mono ?_))
      rintro x1 h1 ⟨⟨r, rfl, hr⟩, rfl⟩
      cases r
      ·
        repeat' (first | ((show RRun _ _ _ (.code r103d :: _) _ _ _; exact S.keep [0, 1, 2, 3, 8, 9, 10, 11] rfl next)) | refine S.nilK ?_ | (refine S.op rfl ?_; first | refine R.mv rfl ?_ | refine R.loadR rfl rfl ?_ | refine R.load (by decide) rfl (by first | assumption | exact AHeap.set_same _ _ _) rfl ?_ | refine S.addI rfl rfl (by omega) ?_ | refine S.subI rfl rfl (by omega) ?_ | refine S.addU rfl rfl ?_ | refine S.subU rfl rfl ?_ | refine S.addUc rfl (by decide) ?_ | refine S.subUc rfl (by decide) ?_ | refine S.arith rfl rfl rfl ?_ | refine R.pickT rfl rfl ?_ | refine R.pickF rfl rfl ?_ | refine R.not rfl ?_ | refine R.eqPtrNil rfl rfl ?_ | refine R.extract rfl rfl ?_ | ((first | refine S.lss rfl rfl ?_ ?_ | refine S.gtr rfl rfl ?_ ?_ | refine S.leq rfl rfl ?_ ?_ | refine S.geq rfl rfl ?_ ?_ | refine S.eqInt rfl rfl ?_ ?_) <;> intro hlt <;> try (exfalso; omega))) | refine S.skip rfl ?_ | refine S.skip0 rfl ?_ | refine S.seq ?_ | refine S.region ?_ | refine S.condT rfl ?_ | refine S.condF rfl ?_ | refine RRun.skip ?_ | refine RRun.block ?_ | refine RRun.inBlock ?_ | refine RRun.exit rfl ?_)
      ·
        repeat' (first | refine S.nilK ?_ | (refine S.op rfl ?_; first | refine R.mv rfl ?_ | refine R.loadR rfl rfl ?_ | refine R.load (by decide) rfl (by first | assumption | exact AHeap.set_same _ _ _) rfl ?_ | refine S.addI rfl rfl (by omega) ?_ | refine S.subI rfl rfl (by omega) ?_ | refine S.addU rfl rfl ?_ | refine S.subU rfl rfl ?_ | refine S.addUc rfl (by decide) ?_ | refine S.subUc rfl (by decide) ?_ | refine S.arith rfl rfl rfl ?_ | refine R.pickT rfl rfl ?_ | refine R.pickF rfl rfl ?_ | refine R.not rfl ?_ | refine R.eqPtrNil rfl rfl ?_ | refine R.extract rfl rfl ?_ | ((first | refine S.lss rfl rfl ?_ ?_ | refine S.gtr rfl rfl ?_ ?_ | refine S.leq rfl rfl ?_ ?_ | refine S.geq rfl rfl ?_ ?_ | refine S.eqInt rfl rfl ?_ ?_) <;> intro hlt <;> try (exfalso; omega))) | refine S.skip rfl ?_ | refine S.skip0 rfl ?_ | refine S.seq ?_ | refine S.region ?_ | refine S.condT rfl ?_ | refine S.condF rfl ?_ | refine RRun.skip ?_ | refine RRun.block ?_ | refine RRun.inBlock ?_ | refine RRun.exit rfl ?_)
        apply S.ret rr103
        case hx => repeat (first | exact ResAt.nil | apply ResAt.tmp rfl | apply ResAt.cellA rfl (by first | assumption | exact AHeap.set_same _ _ _) (by rfl) | apply ResAt.cell1 rfl (by first | assumption | exact AHeap.set_same _ _ _) (by rfl))
        exact ⟨d, hR d hd (Go.Sort.permIn_refl _ _ _) (hr rfl), rfl⟩
  · cases wB <;> cases wP
    all_goals
      repeat' (first | ((show RRun _ _ _ (.code r103d :: _) _ _ _; exact S.keep [0, 1, 2, 3, 8, 9, 10, 11] rfl next)) | refine S.nilK ?_ | (refine S.op rfl ?_; first | refine R.mv rfl ?_ | refine R.loadR rfl rfl ?_ | refine R.load (by decide) rfl (by first | assumption | exact AHeap.set_same _ _ _) rfl ?_ | refine S.addI rfl rfl (by omega) ?_ | refine S.subI rfl rfl (by omega) ?_ | refine S.addU rfl rfl ?_ | refine S.subU rfl rfl ?_ | refine S.addUc rfl (by decide) ?_ | refine S.subUc rfl (by decide) ?_ | refine S.arith rfl rfl rfl ?_ | refine R.pickT rfl rfl ?_ | refine R.pickF rfl rfl ?_ | refine R.not rfl ?_ | refine R.eqPtrNil rfl rfl ?_ | refine R.extract rfl rfl ?_ | ((first | refine S.lss rfl rfl ?_ ?_ | refine S.gtr rfl rfl ?_ ?_ | refine S.leq rfl rfl ?_ ?_ | refine S.geq rfl rfl ?_ ?_ | refine S.eqInt rfl rfl ?_ ?_) <;> intro hlt <;> try (exfalso; omega))) | refine S.skip rfl ?_ | refine S.skip0 rfl ?_ | refine S.seq ?_ | refine S.region ?_ | refine S.condT rfl ?_ | refine S.condF rfl ?_ | refine RRun.skip ?_ | refine RRun.block ?_ | refine RRun.inBlock ?_ | refine RRun.exit rfl ?_)

theorem pdq_B {q cap n f : Nat} {sp : List AV} {h : AHeap} (hA : PdqAll q cap n sp h f) (hn : n ≤ 49) (a e pivot limit t : Nat) (wB wP : Bool) (d : Array SE) (G : Array SE → Prop) (hf : e - a ≤ f) (hap : a ≤ pivot) (hpe : pivot < e) (he : e ≤ n) (hd : d.size = n) (hB : Below ltE a e d) (hl : limit ≤ 100)
    (hR : ∀ d', d'.size = n → PermIn a e d d' → SortedIn ltE a e d' → G d') :
    RRun Try.prog Try.f103 134 [.code r103b, .inBlock 1, .inLoop r103l0, .inBlock 0] (Env.get [(0, slAt q 0 n cap), (1, i64 a), (2, i64 e), (3, i64 limit), (8, bl wB), (9, bl wP), (10, i64 (e - a : Nat)), (11, i64 pivot), (12, i64 t)]) (HL h q d.toList sp) (fun _ h' => ∃ d', G d' ∧ h' = HL h q d'.toList sp) := by
  unfold r103b
  by_cases ht : t = 2
  · have hp := Go.Sort.reverseRange_holds d a e (by omega) (by omega)
    have hs : (Go.Sort.reverseRange d a e).size = n := by rw [hp.1]; exact hd
    have next := pdq_C hA hn a e (e - 1 - (pivot - a)) limit 1 wB wP _ G hf (by omega) (by omega) he hs (hB.perm (by omega) hp) hl (fun d' s1 s2 s3 => hR d' s1 (Go.Sort.permIn_trans _ _ _ _ _ hp s2) s3)
    repeat' (first | ((show RRun _ _ _ (.code r103c :: _) _ _ _; exact S.keep [0, 1, 2, 3, 8, 9, 10, 11, 12] rfl next)) | (refine S.op0 rfl (S.stE rfl rfl rfl (by simp only [List.length_set, Array.length_toList]; omega) ?_)) | refine S.nilK ?_ | (refine S.op rfl ?_; first | refine S.addNN (n := 1) rfl rfl (by omega) ?_ | refine S.addNN rfl rfl (by omega) ?_ | refine S.subNN (n := 1) rfl rfl (by omega) (by omega) ?_ | refine S.subNN rfl rfl (by omega) (by omega) ?_ | refine S.ix rfl rfl (by omega) ?_ | refine S.ldE (by decide) rfl (by omega) ?_ | refine callU rfl rfl (reverseRange_spec q cap n a e sp h (by omega) he (by omega) d hd) (fun x => ?_) | refine R.mv rfl ?_ | refine R.loadR rfl rfl ?_ | refine R.load (by decide) rfl (by first | assumption | exact AHeap.set_same _ _ _) rfl ?_ | refine S.addI rfl rfl (by omega) ?_ | refine S.subI rfl rfl (by omega) ?_ | refine S.addU rfl rfl ?_ | refine S.subU rfl rfl ?_ | refine S.addUc rfl (by decide) ?_ | refine S.subUc rfl (by decide) ?_ | refine S.arith rfl rfl rfl ?_ | refine R.pickT rfl rfl ?_ | refine R.pickF rfl rfl ?_ | refine R.not rfl ?_ | refine R.eqPtrNil rfl rfl ?_ | refine R.extract rfl rfl ?_ | ((first | refine S.lss rfl rfl ?_ ?_ | refine S.gtr rfl rfl ?_ ?_ | refine S.leq rfl rfl ?_ ?_ | refine S.geq rfl rfl ?_ ?_ | refine S.eqInt rfl rfl ?_ ?_) <;> intro hlt <;> try (exfalso; omega))) | refine S.skip rfl ?_ | refine S.skip0 rfl ?_ | refine S.seq ?_ | refine S.region ?_ | refine S.condT rfl ?_ | refine S.condF rfl ?_ | refine RRun.skip ?_ | refine RRun.block ?_ | refine RRun.inBlock ?_ | refine RRun.exit rfl ?_)
  · have next := pdq_C hA hn a e pivot limit t wB wP d G hf hap hpe he hd hB hl hR
    repeat' (first | ((show RRun _ _ _ (.code r103c :: _) _ _ _; exact S.keep [0, 1, 2, 3, 8, 9, 10, 11, 12] rfl next)) | (refine S.op0 rfl (S.stE rfl rfl rfl (by simp only [List.length_set, Array.length_toList]; omega) ?_)) | refine S.nilK ?_ | (refine S.op rfl ?_; first | refine S.addNN (n := 1) rfl rfl (by omega) ?_ | refine S.addNN rfl rfl (by omega) ?_ | refine S.subNN (n := 1) rfl rfl (by omega) (by omega) ?_ | refine S.subNN rfl rfl (by omega) (by omega) ?_ | refine S.ix rfl rfl (by omega) ?_ | refine S.ldE (by decide) rfl (by omega) ?_ | refine R.mv rfl ?_ | refine R.loadR rfl rfl ?_ | refine R.load (by decide) rfl (by first | assumption | exact AHeap.set_same _ _ _) rfl ?_ | refine S.addI rfl rfl (by omega) ?_ | refine S.subI rfl rfl (by omega) ?_ | refine S.addU rfl rfl ?_ | refine S.subU rfl rfl ?_ | refine S.addUc rfl (by decide) ?_ | refine S.subUc rfl (by decide) ?_ | refine S.arith rfl rfl rfl ?_ | refine R.pickT rfl rfl ?_ | refine R.pickF rfl rfl ?_ | refine R.not rfl ?_ | refine R.eqPtrNil rfl rfl ?_ | refine R.extract rfl rfl ?_ | ((first | refine S.lss rfl rfl ?_ ?_ | refine S.gtr rfl rfl ?_ ?_ | refine S.leq rfl rfl ?_ ?_ | refine S.geq rfl rfl ?_ ?_ | refine S.eqInt rfl rfl ?_ ?_) <;> intro hlt <;> try (exfalso; omega))) | refine S.skip rfl ?_ | refine S.skip0 rfl ?_ | refine S.seq ?_ | refine S.region ?_ | refine S.condT rfl ?_ | refine S.condF rfl ?_ | refine RRun.skip ?_ | refine RRun.block ?_ | refine RRun.inBlock ?_ | refine RRun.exit rfl ?_)

theorem pdq_all (q cap n : Nat) (sp : List AV) (h : AHeap) (hn : n ≤ 49) : ∀ f, PdqAll q cap n sp h f := by
  intro f
  induction f with
  | zero => intro a e d G hf; omega
  | succ f ih =>
    intro a e d G hf ha he hd hB hR limit wB wP hl
    refine RRun.inLoop ?_
    by_cases h12 : e - a ≤ 12
    · have hp := Go.Sort.insertionSort_holds swo_ltE d a e ha (by omega)
      repeat' (first | (refine S.op0 rfl (S.stE rfl rfl rfl (by simp only [List.length_set, Array.length_toList]; omega) ?_)) | refine S.nilK ?_ | (refine S.op rfl ?_; first | refine S.addNN (n := 1) rfl rfl (by omega) ?_ | refine S.addNN rfl rfl (by omega) ?_ | refine S.subNN (n := 1) rfl rfl (by omega) (by omega) ?_ | refine S.subNN rfl rfl (by omega) (by omega) ?_ | refine S.ix rfl rfl (by omega) ?_ | refine S.ldE (by decide) rfl (by omega) ?_ | refine callU rfl rfl (insertionSort_spec q cap n a e sp h (by omega) he (by omega) d hd) (fun x => ?_) | refine R.mv rfl ?_ | refine R.loadR rfl rfl ?_ | refine R.load (by decide) rfl (by first | assumption | exact AHeap.set_same _ _ _) rfl ?_ | refine S.addI rfl rfl (by omega) ?_ | refine S.subI rfl rfl (by omega) ?_ | refine S.addU rfl rfl ?_ | refine S.subU rfl rfl ?_ | refine S.addUc rfl (by decide) ?_ | refine S.subUc rfl (by decide) ?_ | refine S.arith rfl rfl rfl ?_ | refine R.pickT rfl rfl ?_ | refine R.pickF rfl rfl ?_ | refine R.not rfl ?_ | refine R.eqPtrNil rfl rfl ?_ | refine R.extract rfl rfl ?_ | ((first | refine S.lss rfl rfl ?_ ?_ | refine S.gtr rfl rfl ?_ ?_ | refine S.leq rfl rfl ?_ ?_ | refine S.geq rfl rfl ?_ ?_ | refine S.eqInt rfl rfl ?_ ?_) <;> intro hlt <;> try (exfalso; omega))) | refine S.skip rfl ?_ | refine S.skip0 rfl ?_ | refine S.seq ?_ | refine S.region ?_ | refine S.condT rfl ?_ | refine S.condF rfl ?_ | refine RRun.skip ?_ | refine RRun.block ?_ | refine RRun.inBlock ?_ | refine RRun.exit rfl ?_)
      apply S.ret rr103
      case hx => repeat (first | exact ResAt.nil | apply ResAt.tmp rfl | apply ResAt.cellA rfl (by first | assumption | exact AHeap.set_same _ _ _) (by rfl) | apply ResAt.cell1 rfl (by first | assumption | exact AHeap.set_same _ _ _) (by rfl))
      exact ⟨_, hR _ (by rw [hp.1.1]; exact hd) hp.1 hp.2, rfl⟩
    · by_cases hl0 : limit = 0
      · have hp := Go.Sort.heapSort_holds swo_ltE d a e ha (by omega)
        repeat' (first | (refine S.op0 rfl (S.stE rfl rfl rfl (by simp only [List.length_set, Array.length_toList]; omega) ?_)) | refine S.nilK ?_ | (refine S.op rfl ?_; first | refine S.addNN (n := 1) rfl rfl (by omega) ?_ | refine S.addNN rfl rfl (by omega) ?_ | refine S.subNN (n := 1) rfl rfl (by omega) (by omega) ?_ | refine S.subNN rfl rfl (by omega) (by omega) ?_ | refine S.ix rfl rfl (by omega) ?_ | refine S.ldE (by decide) rfl (by omega) ?_ | refine callU rfl rfl (heapSort_spec q cap n a e sp h (by omega) he (by omega) d hd (by omega)) (fun x => ?_) | refine R.mv rfl ?_ | refine R.loadR rfl rfl ?_ | refine R.load (by decide) rfl (by first | assumption | exact AHeap.set_same _ _ _) rfl ?_ | refine S.addI rfl rfl (by omega) ?_ | refine S.subI rfl rfl (by omega) ?_ | refine S.addU rfl rfl ?_ | refine S.subU rfl rfl ?_ | refine S.addUc rfl (by decide) ?_ | refine S.subUc rfl (by decide) ?_ | refine S.arith rfl rfl rfl ?_ | refine R.pickT rfl rfl ?_ | refine R.pickF rfl rfl ?_ | refine R.not rfl ?_ | refine R.eqPtrNil rfl rfl ?_ | refine R.extract rfl rfl ?_ | ((first | refine S.lss rfl rfl ?_ ?_ | refine S.gtr rfl rfl ?_ ?_ | refine S.leq rfl rfl ?_ ?_ | refine S.geq rfl rfl ?_ ?_ | refine S.eqInt rfl rfl ?_ ?_) <;> intro hlt <;> try (exfalso; omega))) | refine S.skip rfl ?_ | refine S.skip0 rfl ?_ | refine S.seq ?_ | refine S.region ?_ | refine S.condT rfl ?_ | refine S.condF rfl ?_ | refine RRun.skip ?_ | refine RRun.block ?_ | refine RRun.inBlock ?_ | refine RRun.exit rfl ?_)
        apply S.ret rr103
        case hx => repeat (first | exact ResAt.nil | apply ResAt.tmp rfl | apply ResAt.cellA rfl (by first | assumption | exact AHeap.set_same _ _ _) (by rfl) | apply ResAt.cell1 rfl (by first | assumption | exact AHeap.set_same _ _ _) (by rfl))
        exact ⟨_, hR _ (by rw [hp.1.1]; exact hd) hp.1 hp.2, rfl⟩
      · cases wB with
        | true =>
          repeat' (first | (refine S.op0 rfl (S.stE rfl rfl rfl (by simp only [List.length_set, Array.length_toList]; omega) ?_)) | refine S.nilK ?_ | (refine S.op rfl ?_; first | refine S.addNN (n := 1) rfl rfl (by omega) ?_ | refine S.addNN rfl rfl (by omega) ?_ | refine S.subNN (n := 1) rfl rfl (by omega) (by omega) ?_ | refine S.subNN rfl rfl (by omega) (by omega) ?_ | refine S.ix rfl rfl (by omega) ?_ | refine S.ldE (by decide) rfl (by omega) ?_ | refine R.mv rfl ?_ | refine R.loadR rfl rfl ?_ | refine R.load (by decide) rfl (by first | assumption | exact AHeap.set_same _ _ _) rfl ?_ | refine S.addI rfl rfl (by omega) ?_ | refine S.subI rfl rfl (by omega) ?_ | refine S.addU rfl rfl ?_ | refine S.subU rfl rfl ?_ | refine S.addUc rfl (by decide) ?_ | refine S.subUc rfl (by decide) ?_ | refine S.arith rfl rfl rfl ?_ | refine R.pickT rfl rfl ?_ | refine R.pickF rfl rfl ?_ | refine R.not rfl ?_ | refine R.eqPtrNil rfl rfl ?_ | refine R.extract rfl rfl ?_ | ((first | refine S.lss rfl rfl ?_ ?_ | refine S.gtr rfl rfl ?_ ?_ | refine S.leq rfl rfl ?_ ?_ | refine S.geq rfl rfl ?_ ?_ | refine S.eqInt rfl rfl ?_ ?_) <;> intro hlt <;> try (exfalso; omega))) | refine S.skip rfl ?_ | refine S.skip0 rfl ?_ | refine S.seq ?_ | refine S.region ?_ | refine S.condT rfl ?_ | refine S.condF rfl ?_ | refine RRun.skip ?_ | refine RRun.block ?_ | refine RRun.inBlock ?_ | refine RRun.exit rfl ?_)
          refine S.op rfl (R.call rfl rfl ((choosePivot_spec q cap n a e sp h (by omega) he (by omega) (by omega) d hd).mono ?_))
          rintro x1 h1 ⟨⟨r, t, rfl, r1, r2, r3⟩, rfl⟩
          repeat' (first | ((show RRun _ _ _ (.code r103b :: _) _ _ _; exact S.keep [0, 1, 2, 3, 8, 9, 10, 11, 12] rfl (pdq_B ih hn a e r limit t true wP d G (by omega) r1 r2 he hd hB hl hR))) | refine S.nilK ?_ | (refine S.op rfl ?_; first | refine R.mv rfl ?_ | refine R.loadR rfl rfl ?_ | refine R.load (by decide) rfl (by first | assumption | exact AHeap.set_same _ _ _) rfl ?_ | refine S.addI rfl rfl (by omega) ?_ | refine S.subI rfl rfl (by omega) ?_ | refine S.addU rfl rfl ?_ | refine S.subU rfl rfl ?_ | refine S.addUc rfl (by decide) ?_ | refine S.subUc rfl (by decide) ?_ | refine S.arith rfl rfl rfl ?_ | refine R.pickT rfl rfl ?_ | refine R.pickF rfl rfl ?_ | refine R.not rfl ?_ | refine R.eqPtrNil rfl rfl ?_ | refine R.extract rfl rfl ?_ | ((first | refine S.lss rfl rfl ?_ ?_ | refine S.gtr rfl rfl ?_ ?_ | refine S.leq rfl rfl ?_ ?_ | refine S.geq rfl rfl ?_ ?_ | refine S.eqInt rfl rfl ?_ ?_) <;> intro hlt <;> try (exfalso; omega))) | refine S.skip rfl ?_ | refine S.skip0 rfl ?_ | refine S.seq ?_ | refine S.region ?_ | refine S.condT rfl ?_ | refine S.condF rfl ?_ | refine RRun.skip ?_ | refine RRun.block ?_ | refine RRun.inBlock ?_ | refine RRun.exit rfl ?_)
        | false =>
          repeat' (first | (refine S.op0 rfl (S.stE rfl rfl rfl (by simp only [List.length_set, Array.length_toList]; omega) ?_)) | refine S.nilK ?_ | (refine S.op rfl ?_; first | refine S.addNN (n := 1) rfl rfl (by omega) ?_ | refine S.addNN rfl rfl (by omega) ?_ | refine S.subNN (n := 1) rfl rfl (by omega) (by omega) ?_ | refine S.subNN rfl rfl (by omega) (by omega) ?_ | refine S.ix rfl rfl (by omega) ?_ | refine S.ldE (by decide) rfl (by omega) ?_ | refine R.mv rfl ?_ | refine R.loadR rfl rfl ?_ | refine R.load (by decide) rfl (by first | assumption | exact AHeap.set_same _ _ _) rfl ?_ | refine S.addI rfl rfl (by omega) ?_ | refine S.subI rfl rfl (by omega) ?_ | refine S.addU rfl rfl ?_ | refine S.subU rfl rfl ?_ | refine S.addUc rfl (by decide) ?_ | refine S.subUc rfl (by decide) ?_ | refine S.arith rfl rfl rfl ?_ | refine R.pickT rfl rfl ?_ | refine R.pickF rfl rfl ?_ | refine R.not rfl ?_ | refine R.eqPtrNil rfl rfl ?_ | refine R.extract rfl rfl ?_ | ((first | refine S.lss rfl rfl ?_ ?_ | refine S.gtr rfl rfl ?_ ?_ | refine S.leq rfl rfl ?_ ?_ | refine S.geq rfl rfl ?_ ?_ | refine S.eqInt rfl rfl ?_ ?_) <;> intro hlt <;> try (exfalso; omega))) | refine S.skip rfl ?_ | refine S.skip0 rfl ?_ | refine S.seq ?_ | refine S.region ?_ | refine S.condT rfl ?_ | refine S.condF rfl ?_ | refine RRun.skip ?_ | refine RRun.block ?_ | refine RRun.inBlock ?_ | refine RRun.exit rfl ?_)
          refine S.op rfl (R.call rfl rfl ((breakPatterns_spec q cap n a e sp h (by omega) he ha (by omega) d hd).mono ?_))
          rintro x0 h0 ⟨d1, hd1, hp1, rfl⟩
          repeat' (first | (refine S.op0 rfl (S.stE rfl rfl rfl (by simp only [List.length_set, Array.length_toList]; omega) ?_)) | refine S.nilK ?_ | (refine S.op rfl ?_; first | refine S.addNN (n := 1) rfl rfl (by omega) ?_ | refine S.addNN rfl rfl (by omega) ?_ | refine S.subNN (n := 1) rfl rfl (by omega) (by omega) ?_ | refine S.subNN rfl rfl (by omega) (by omega) ?_ | refine S.ix rfl rfl (by omega) ?_ | refine S.ldE (by decide) rfl (by omega) ?_ | refine R.mv rfl ?_ | refine R.loadR rfl rfl ?_ | refine R.load (by decide) rfl (by first | assumption | exact AHeap.set_same _ _ _) rfl ?_ | refine S.addI rfl rfl (by omega) ?_ | refine S.subI rfl rfl (by omega) ?_ | refine S.addU rfl rfl ?_ | refine S.subU rfl rfl ?_ | refine S.addUc rfl (by decide) ?_ | refine S.subUc rfl (by decide) ?_ | refine S.arith rfl rfl rfl ?_ | refine R.pickT rfl rfl ?_ | refine R.pickF rfl rfl ?_ | refine R.not rfl ?_ | refine R.eqPtrNil rfl rfl ?_ | refine R.extract rfl rfl ?_ | ((first | refine S.lss rfl rfl ?_ ?_ | refine S.gtr rfl rfl ?_ ?_ | refine S.leq rfl rfl ?_ ?_ | refine S.geq rfl rfl ?_ ?_ | refine S.eqInt rfl rfl ?_ ?_) <;> intro hlt <;> try (exfalso; omega))) | refine S.skip rfl ?_ | refine S.skip0 rfl ?_ | refine S.seq ?_ | refine S.region ?_ | refine S.condT rfl ?_ | refine S.condF rfl ?_ | refine RRun.skip ?_ | refine RRun.block ?_ | refine RRun.inBlock ?_ | refine RRun.exit rfl ?_)
          refine S.op rfl (R.call rfl rfl ((choosePivot_spec q cap n a e sp h (by omega) he (by omega) (by omega) d1 hd1).mono ?_))
          rintro x1 h1 ⟨⟨r, t, rfl, r1, r2, r3⟩, rfl⟩
          repeat' (first | ((show RRun _ _ _ (.code r103b :: _) _ _ _; exact S.keep [0, 1, 2, 3, 8, 9, 10, 11, 12] rfl (pdq_B ih hn a e r (limit - 1) t false wP d1 G (by omega) r1 r2 he hd1 (hB.perm (by omega) hp1) (by omega) (fun d' s1 s2 s3 => hR d' s1 (Go.Sort.permIn_trans _ _ _ _ _ hp1 s2) s3)))) | refine S.nilK ?_ | (refine S.op rfl ?_; first | refine R.mv rfl ?_ | refine R.loadR rfl rfl ?_ | refine R.load (by decide) rfl (by first | assumption | exact AHeap.set_same _ _ _) rfl ?_ | refine S.addI rfl rfl (by omega) ?_ | refine S.subI rfl rfl (by omega) ?_ | refine S.addU rfl rfl ?_ | refine S.subU rfl rfl ?_ | refine S.addUc rfl (by decide) ?_ | refine S.subUc rfl (by decide) ?_ | refine S.arith rfl rfl rfl ?_ | refine R.pickT rfl rfl ?_ | refine R.pickF rfl rfl ?_ | refine R.not rfl ?_ | refine R.eqPtrNil rfl rfl ?_ | refine R.extract rfl rfl ?_ | ((first | refine S.lss rfl rfl ?_ ?_ | refine S.gtr rfl rfl ?_ ?_ | refine S.leq rfl rfl ?_ ?_ | refine S.geq rfl rfl ?_ ?_ | refine S.eqInt rfl rfl ?_ ?_) <;> intro hlt <;> try (exfalso; omega))) | refine S.skip rfl ?_ | refine S.skip0 rfl ?_ | refine S.seq ?_ | refine S.region ?_ | refine S.condT rfl ?_ | refine S.condF rfl ?_ | refine RRun.skip ?_ | refine RRun.block ?_ | refine RRun.inBlock ?_ | refine RRun.exit rfl ?_)

theorem pdqsort_spec (q cap n limit : Nat) (sp : List AV) (h : AHeap) (hn : n ≤ 49) (hl : limit ≤ 100) (d : Array SE) (hd : d.size = n) :
    ACalls Try.prog 103 [slAt q 0 n cap, i64 (0 : Nat), i64 n, i64 limit] (HL h q d.toList sp) (fun _ h' => ∃ d', (d'.size = n ∧ PermIn 0 n d d' ∧ SortedIn ltE 0 n d') ∧ h' = HL h q d'.toList sp) :=
  pdq_call (pdq_all q cap n sp h hn (n + 1)) 0 n limit d (by omega) (by omega) (by omega) hd (.inl rfl) hl

end Go.Proofs.Ytnmgamcmjjngcaa
