import Derived.Test.YtnmgamcmjjngcaaV4
set_option linter.unusedVariables false
set_option linter.unusedSimpArgs false
namespace Go.Proofs.Ytnmgamcmjjngcaa
open Go.Av

theorem fits_two {x : Msg} (h : x.fits) : x.fits2 := ⟨by have := h.1; omega, by have := h.2.2.1; omega⟩

def r4l0 : RCode :=
  (.seq (.region [
    ⟨(some 40), none, .act, .bin .lss (.tmp 39) (.tmp 38)⟩])
  (.seq (.cond (.tmp 40)
   .skip
   (.exit 0))
  (.seq (.block 1
   (.seq (.region [
     ⟨(some 41), none, .act, .indexAddr 14 (.tmp 37) (.tmp 39)⟩,
     ⟨(some 42), none, .act, .load true 14 (.tmp 41)⟩,
     ⟨(some 7), none, .act, .alloc [(.int .i64 0), (.int .u64 0), (.int .u64 0), (.int .u64 0), (.int .u64 0), (.int .u64 0), (.int .u64 0), (.int .u64 0), (.bool false), (.slice none 0 0), (.int .u64 0), (.int .u64 0), (.slice none 0 0), (.slice none 0 0)]⟩,
     ⟨none, none, .act, .store 14 (.tmp 7) (.tmp 42)⟩])
   (.seq (.seq (.region [
     ⟨(some 43), none, .act, .fieldAddr 9 (.tmp 7)⟩,
     ⟨(some 44), none, .act, .load false 1 (.tmp 43)⟩,
     ⟨(some 45), none, .act, .call 12 [(.tmp 44)]⟩,
     ⟨(some 46), none, .act, .un .not (.tmp 45)⟩,
     ⟨(some 47), none, .act, .mv (.tmp 46)⟩,
     ⟨(some 48), (some (47, false)), .act, .fieldAddr 10 (.tmp 7)⟩,
     ⟨(some 49), (some (47, false)), .act, .load true 4 (.tmp 48)⟩,
     ⟨(some 50), (some (47, false)), .act, .call 11 [(.tmp 49)]⟩,
     ⟨(some 51), (some (47, false)), .act, .un .not (.tmp 50)⟩,
     ⟨(some 52), none, .act, .pick (.tmp 47) (.const (.bool true)) (.tmp 51)⟩])
   (.cond (.tmp 52)
    (.seq (.region [
      ⟨(some 4), none, .act, .mv (.const (.bool true))⟩])
    .ret)
    .skip))
   (.seq (.seq (.region [
     ⟨(some 53), none, .pure, .mv (.tmp 1)⟩,
     ⟨(some 54), none, .pure, .mv (.tmp 53)⟩,
     ⟨(some 55), (some (54, true)), .pure, .fieldAddr 1 (.tmp 7)⟩,
     ⟨(some 56), (some (54, true)), .read, .load false 1 (.tmp 55)⟩,
     ⟨(some 57), (some (54, true)), .pure, .mv (.tmp 0)⟩,
     ⟨(some 58), (some (54, true)), .pure, .indexAddr 14 (.tmp 57) (.const (.int .i64 0))⟩,
     ⟨(some 59), (some (54, true)), .pure, .fieldAddr 1 (.tmp 58)⟩,
     ⟨(some 60), (some (54, true)), .read, .load false 1 (.tmp 59)⟩,
     ⟨(some 61), (some (54, true)), .pure, .eq false .int (.tmp 56) (.tmp 60)⟩,
     ⟨(some 62), (some (54, true)), .pure, .mv (.tmp 61)⟩,
     ⟨(some 63), (some (62, true)), .pure, .fieldAddr 2 (.tmp 7)⟩,
     ⟨(some 64), (some (62, true)), .read, .load false 1 (.tmp 63)⟩,
     ⟨(some 65), (some (62, true)), .pure, .mv (.tmp 0)⟩,
     ⟨(some 66), (some (62, true)), .pure, .indexAddr 14 (.tmp 65) (.const (.int .i64 0))⟩,
     ⟨(some 67), (some (62, true)), .pure, .fieldAddr 2 (.tmp 66)⟩,
     ⟨(some 68), (some (62, true)), .read, .load false 1 (.tmp 67)⟩,
     ⟨(some 69), (some (62, true)), .pure, .eq false .int (.tmp 64) (.tmp 68)⟩,
     ⟨(some 70), (some (54, true)), .pure, .pick (.tmp 62) (.tmp 69) (.const (.bool false))⟩,
     ⟨(some 71), (some (54, true)), .pure, .mv (.tmp 70)⟩,
     ⟨(some 72), (some (71, false)), .pure, .fieldAddr 1 (.tmp 7)⟩,
     ⟨(some 73), (some (71, false)), .read, .load false 1 (.tmp 72)⟩,
     ⟨(some 74), (some (71, false)), .pure, .mv (.tmp 0)⟩,
     ⟨(some 75), (some (71, false)), .pure, .indexAddr 14 (.tmp 74) (.const (.int .i64 0))⟩,
     ⟨(some 76), (some (71, false)), .pure, .fieldAddr 2 (.tmp 75)⟩,
     ⟨(some 77), (some (71, false)), .read, .load false 1 (.tmp 76)⟩,
     ⟨(some 78), (some (71, false)), .pure, .eq false .int (.tmp 73) (.tmp 77)⟩,
     ⟨(some 79), (some (71, false)), .pure, .mv (.tmp 78)⟩,
     ⟨(some 80), (some (79, true)), .pure, .fieldAddr 2 (.tmp 7)⟩,
     ⟨(some 81), (some (79, true)), .read, .load false 1 (.tmp 80)⟩,
     ⟨(some 82), (some (79, true)), .pure, .mv (.tmp 0)⟩,
     ⟨(some 83), (some (79, true)), .pure, .indexAddr 14 (.tmp 82) (.const (.int .i64 0))⟩,
     ⟨(some 84), (some (79, true)), .pure, .fieldAddr 1 (.tmp 83)⟩,
     ⟨(some 85), (some (79, true)), .read, .load false 1 (.tmp 84)⟩,
     ⟨(some 86), (some (79, true)), .pure, .eq false .int (.tmp 81) (.tmp 85)⟩,
     ⟨(some 87), (some (71, false)), .pure, .pick (.tmp 79) (.tmp 86) (.const (.bool false))⟩,
     ⟨(some 88), (some (54, true)), .pure, .pick (.tmp 71) (.const (.bool true)) (.tmp 87)⟩,
     ⟨(some 89), none, .pure, .pick (.tmp 54) (.tmp 88) (.const (.bool false))⟩])
   (.cond (.tmp 89)
    (.exit 1)
    .skip))
   (.seq (.region [
     ⟨(some 91), none, .act, .mv (.tmp 5)⟩,
     ⟨(some 92), none, .act, .call 22 [(.tmp 91)]⟩,
     ⟨(some 90), none, .act, .mv (.tmp 92)⟩,
     ⟨(some 93), none, .act, .extract (.tmp 90) 0⟩,
     ⟨(some 94), none, .act, .extract (.tmp 90) 1⟩,
     ⟨(some 8), none, .act, .alloc [(.int .i64 0), (.int .u64 0), (.int .u64 0), (.int .u64 0), (.int .u64 0), (.int .u64 0), (.int .u64 0), (.int .u64 0), (.bool false), (.slice none 0 0), (.int .u64 0), (.int .u64 0), (.slice none 0 0), (.slice none 0 0)]⟩,
     ⟨none, none, .act, .store 14 (.tmp 8) (.tmp 93)⟩,
     ⟨(some 9), none, .act, .mv (.tmp 94)⟩])
   (.seq (.region [
     ⟨(some 95), none, .act, .mv (.tmp 9)⟩,
     ⟨(some 96), none, .act, .un .not (.tmp 95)⟩,
     ⟨(some 97), none, .act, .mv (.tmp 96)⟩,
     ⟨(some 98), (some (97, false)), .act, .load true 14 (.tmp 7)⟩,
     ⟨(some 99), (some (97, false)), .act, .buildSl 14 [(.int .i64 0), (.int .u64 0), (.int .u64 0), (.int .u64 0), (.int .u64 0), (.int .u64 0), (.int .u64 0), (.int .u64 0), (.bool false), (.slice none 0 0), (.int .u64 0), (.int .u64 0), (.slice none 0 0), (.slice none 0 0)] 1 [(0, (.tmp 98))]⟩,
     ⟨(some 100), (some (97, false)), .act, .load true 14 (.tmp 8)⟩,
     ⟨(some 101), (some (97, false)), .act, .buildSl 14 [(.int .i64 0), (.int .u64 0), (.int .u64 0), (.int .u64 0), (.int .u64 0), (.int .u64 0), (.int .u64 0), (.int .u64 0), (.bool false), (.slice none 0 0), (.int .u64 0), (.int .u64 0), (.slice none 0 0), (.slice none 0 0)] 1 [(0, (.tmp 100))]⟩,
     ⟨(some 102), (some (97, false)), .act, .call 23 [(.tmp 99), (.tmp 101)]⟩,
     ⟨(some 103), (some (97, false)), .act, .un .not (.tmp 102)⟩,
     ⟨(some 104), none, .act, .pick (.tmp 97) (.const (.bool true)) (.tmp 103)⟩])
   (.cond (.tmp 104)
    (.seq (.region [
      ⟨(some 4), none, .act, .mv (.const (.bool false))⟩])
    .ret)
    .skip)))))))
  (.region [
    ⟨(some 105), none, .act, .bin .add (.tmp 39) (.const (.int .i64 1))⟩,
    ⟨(some 39), none, .act, .mv (.tmp 105)⟩]))))
/-- plenum/plenumlaw10.MeshPlain -/
def r4 : RCode :=
  (.seq (.region [
    ⟨(some 4), none, .act, .mv (.const (.bool false))⟩])
  (.seq (.seq (.region [
    ⟨(some 12), none, .act, .call 18 []⟩,
    ⟨(some 13), none, .act, .un .not (.tmp 12)⟩])
  (.cond (.tmp 13)
   (.seq (.region [
     ⟨(some 4), none, .act, .mv (.const (.bool false))⟩])
   .ret)
   .skip))
  (.seq (.seq (.region [
    ⟨(some 14), none, .act, .mv (.tmp 0)⟩,
    ⟨(some 15), none, .act, .len (.tmp 14)⟩,
    ⟨(some 16), none, .act, .bin .gtr (.tmp 15) (.const (.int .i64 30))⟩])
  (.cond (.tmp 16)
   (.seq (.region [
     ⟨(some 4), none, .act, .mv (.const (.bool true))⟩])
   .ret)
   .skip))
  (.seq (.region [
    ⟨(some 17), none, .act, .call 19 [(.const (.slice none 0 0))]⟩,
    ⟨(some 5), none, .act, .mv (.tmp 17)⟩])
  (.seq (.seq (.region [
    ⟨(some 18), none, .act, .mv (.tmp 1)⟩,
    ⟨(some 19), none, .act, .mv (.tmp 18)⟩,
    ⟨(some 20), (some (19, true)), .act, .mv (.tmp 0)⟩,
    ⟨(some 21), (some (19, true)), .act, .len (.tmp 20)⟩,
    ⟨(some 22), (some (19, true)), .act, .bin .gtr (.tmp 21) (.const (.int .i64 0))⟩,
    ⟨(some 23), none, .act, .pick (.tmp 19) (.tmp 22) (.const (.bool false))⟩])
  (.cond (.tmp 23)
   (.region [
     ⟨(some 24), none, .pure, .mv (.tmp 5)⟩,
     ⟨(some 25), none, .pure, .mv (.tmp 0)⟩,
     ⟨(some 26), none, .pure, .indexAddr 14 (.tmp 25) (.const (.int .i64 0))⟩,
     ⟨(some 27), none, .pure, .fieldAddr 2 (.tmp 26)⟩,
     ⟨(some 28), none, .read, .load false 1 (.tmp 27)⟩,
     ⟨(some 29), none, .pure, .mv (.tmp 0)⟩,
     ⟨(some 30), none, .pure, .indexAddr 14 (.tmp 29) (.const (.int .i64 0))⟩,
     ⟨(some 31), none, .pure, .fieldAddr 1 (.tmp 30)⟩,
     ⟨(some 32), none, .read, .load false 1 (.tmp 31)⟩,
     ⟨(some 33), none, .act, .call 20 [(.tmp 24), (.tmp 28), (.tmp 32), (.const (.bool true))]⟩])
   .skip))
  (.seq (.region [
    ⟨(some 34), none, .act, .mv (.tmp 5)⟩,
    ⟨(some 35), none, .act, .mv (.tmp 0)⟩,
    ⟨(some 36), none, .act, .call 21 [(.tmp 34), (.tmp 35)]⟩])
  (.seq (.seq (.region [
    ⟨(some 37), none, .act, .mv (.tmp 0)⟩,
    ⟨(some 38), none, .act, .len (.tmp 37)⟩,
    ⟨(some 39), none, .act, .mv (.const (.int .i64 0))⟩])
  (.block 0
   (.loop r4l0)))
  (.seq (.region [
    ⟨(some 107), none, .act, .mv (.tmp 5)⟩,
    ⟨(some 108), none, .act, .call 22 [(.tmp 107)]⟩,
    ⟨(some 106), none, .act, .mv (.tmp 108)⟩,
    ⟨(some 109), none, .act, .extract (.tmp 106) 0⟩,
    ⟨(some 110), none, .act, .extract (.tmp 106) 1⟩,
    ⟨(some 10), none, .act, .alloc [(.int .i64 0), (.int .u64 0), (.int .u64 0), (.int .u64 0), (.int .u64 0), (.int .u64 0), (.int .u64 0), (.int .u64 0), (.bool false), (.slice none 0 0), (.int .u64 0), (.int .u64 0), (.slice none 0 0), (.slice none 0 0)]⟩,
    ⟨none, none, .act, .store 14 (.tmp 10) (.tmp 109)⟩,
    ⟨(some 11), none, .act, .mv (.tmp 110)⟩])
  (.seq (.region [
    ⟨(some 111), none, .act, .mv (.tmp 11)⟩,
    ⟨(some 112), none, .act, .un .not (.tmp 111)⟩,
    ⟨(some 4), none, .act, .mv (.tmp 112)⟩])
  .ret)))))))))
theorem res4 : ∃ c, Try.f4.body = some c ∧ resCode Try.prog 113 c = some r4 := ⟨_, rfl, by kernel_rfl⟩
theorem rr4 : resRes Try.prog Try.f4.results.toList = some [.tmp 4] := by kernel_rfl
def r4g : RCode :=
  (.seq (.region [
     ⟨(some 91), none, .act, .mv (.tmp 5)⟩,
     ⟨(some 92), none, .act, .call 22 [(.tmp 91)]⟩,
     ⟨(some 90), none, .act, .mv (.tmp 92)⟩,
     ⟨(some 93), none, .act, .extract (.tmp 90) 0⟩,
     ⟨(some 94), none, .act, .extract (.tmp 90) 1⟩,
     ⟨(some 8), none, .act, .alloc [(.int .i64 0), (.int .u64 0), (.int .u64 0), (.int .u64 0), (.int .u64 0), (.int .u64 0), (.int .u64 0), (.int .u64 0), (.bool false), (.slice none 0 0), (.int .u64 0), (.int .u64 0), (.slice none 0 0), (.slice none 0 0)]⟩,
     ⟨none, none, .act, .store 14 (.tmp 8) (.tmp 93)⟩,
     ⟨(some 9), none, .act, .mv (.tmp 94)⟩])
   (.seq (.region [
     ⟨(some 95), none, .act, .mv (.tmp 9)⟩,
     ⟨(some 96), none, .act, .un .not (.tmp 95)⟩,
     ⟨(some 97), none, .act, .mv (.tmp 96)⟩,
     ⟨(some 98), (some (97, false)), .act, .load true 14 (.tmp 7)⟩,
     ⟨(some 99), (some (97, false)), .act, .buildSl 14 [(.int .i64 0), (.int .u64 0), (.int .u64 0), (.int .u64 0), (.int .u64 0), (.int .u64 0), (.int .u64 0), (.int .u64 0), (.bool false), (.slice none 0 0), (.int .u64 0), (.int .u64 0), (.slice none 0 0), (.slice none 0 0)] 1 [(0, (.tmp 98))]⟩,
     ⟨(some 100), (some (97, false)), .act, .load true 14 (.tmp 8)⟩,
     ⟨(some 101), (some (97, false)), .act, .buildSl 14 [(.int .i64 0), (.int .u64 0), (.int .u64 0), (.int .u64 0), (.int .u64 0), (.int .u64 0), (.int .u64 0), (.int .u64 0), (.bool false), (.slice none 0 0), (.int .u64 0), (.int .u64 0), (.slice none 0 0), (.slice none 0 0)] 1 [(0, (.tmp 100))]⟩,
     ⟨(some 102), (some (97, false)), .act, .call 23 [(.tmp 99), (.tmp 101)]⟩,
     ⟨(some 103), (some (97, false)), .act, .un .not (.tmp 102)⟩,
     ⟨(some 104), none, .act, .pick (.tmp 97) (.const (.bool true)) (.tmp 103)⟩])
   (.cond (.tmp 104)
    (.seq (.region [
      ⟨(some 4), none, .act, .mv (.const (.bool false))⟩])
    .ret)
    .skip)))
theorem oneMsg_le (x : Msg) : ALes [.sl 14 [x.cells] .full, .sl 14 [x.cells] .full] [msgs [x], msgs [x]] := .cons (.toRo _ _ _) (.cons (.toRo _ _ _) .nil)

/-- One that is not cut off comes next. -/
theorem plain_go (l : List Msg) (hl : l.length ≤ 30) {x : Msg} (hx : x.fits) (c : List ((UInt64 × UInt64) × Bool)) (cut : Bool) {h₀ h : AHeap} {p bm b : Nat} {M : Mesh} (H : MAt h₀ M p bm h) (hn : M.now = 0) {r : List Msg} (hw : M.wait = ⟨x, 0⟩ :: pend c r) (hr : r.length ≤ 30) (hb : h₀ b = some (.box x.cells)) (i : Nat) (hi : i < 30) (k : List RT) (Q : AV → AHeap → Prop)
    (hk : ∀ h, MAt h₀ M.rest p bm h → RRun Try.prog Try.f4 113 k (Env.get [(39, i64 i), (38, i64 l.length), (37, msgs l), (0, msgs l), (1, bl cut), (5, ptr p)]) h Q) :
    RRun Try.prog Try.f4 113 (.code r4g :: .inBlock 1 :: k) (Env.get [(39, i64 i), (38, i64 l.length), (37, msgs l), (0, msgs l), (1, bl cut), (5, ptr p), (7, ptr b)]) h Q := by
  obtain ⟨g1, g2, g3, g4⟩ := next_plain M hn hw
  have hwl : M.wait.length ≤ 1000000 := by
    rw [hw]
    have : (pend c r).length ≤ r.length := by simp only [pend, List.length_map]; exact List.length_filter_le _ _
    simp only [List.length_cons]; omega
  have hfit := fits_two hx
  unfold r4g
  repeat' (first
    | refine S.nilK ?_
    | (refine S.op rfl ?_; first
      | refine R.mv rfl ?_
      | refine R.fieldAddr rfl ?_
      | refine R.fieldAddrR rfl ?_
      | refine R.nilCheck rfl ?_
      | refine R.nilCheckR rfl ?_
      | refine R.loadR rfl rfl ?_
      | refine R.load (by decide) rfl (by (repeat' (first | assumption | exact AHeap.set_same _ _ _ | refine AHeap.get_fresh (by assumption) ?_ | refine AHeap.so ?_ ?_ | exact AHeap.n1 (by assumption) | exact AHeap.n2 (by assumption) | exact AHeap.ne_of (by assumption) (by assumption) | exact AHeap.n4 (by assumption) (by assumption) | exact AHeap.n5 (by assumption) | exact AHeap.n6 (by assumption) | exact AHeap.n7 (by assumption) (by assumption) | exact AHeap.n8 (by assumption) (by assumption))); first | done | fail) rfl ?_
      | refine S.addI rfl rfl (by omega) ?_
      | refine S.subI rfl rfl (by omega) ?_
      | refine S.addU rfl rfl ?_
      | refine S.subU rfl rfl ?_
      | refine S.addUc rfl (by decide) ?_
      | refine S.subUc rfl (by decide) ?_
      | refine S.arith rfl rfl rfl ?_
      | refine R.pickT rfl rfl ?_
      | refine R.pickF rfl rfl ?_
      | refine R.len rfl ?_
      | refine R.lenA rfl ?_
      | refine R.lenStr rfl ?_
      | refine S.convIU rfl (by omega) ?_
      | refine S.convUI rfl (by omega) ?_
      | refine R.convInt rfl ?_
      | refine R.not rfl ?_
      | refine R.eqPtrNil rfl rfl ?_
      | refine R.extract rfl rfl ?_
      | refine R.field rfl rfl ?_
      | refine R.alloc rfl (fun b hb => ?_)
      | refine R.box rfl rfl rfl (fun b hb => ?_)
      | refine R.build rfl rfl ?_
      | refine R.buildSl rfl rfl rfl (by decide) ?_
      | refine R.toStr rfl ?_
      | refine R.convStr rfl ?_
      | refine R.minmax rfl ?_
      | refine R.makeFunc rfl rfl ?_
      | (first | refine S.lss rfl rfl (fun hlt => ?_) (fun hlt => by exfalso; omega) | refine S.lss rfl rfl (fun hlt => by exfalso; omega) (fun hlt => ?_) | refine S.lss rfl rfl (fun hlt => ?_) (fun hlt => ?_))
      | (first | refine S.gtr rfl rfl (fun hlt => ?_) (fun hlt => by exfalso; omega) | refine S.gtr rfl rfl (fun hlt => by exfalso; omega) (fun hlt => ?_) | refine S.gtr rfl rfl (fun hlt => ?_) (fun hlt => ?_))
      | (first | refine S.leq rfl rfl (fun hlt => ?_) (fun hlt => by exfalso; omega) | refine S.leq rfl rfl (fun hlt => by exfalso; omega) (fun hlt => ?_) | refine S.leq rfl rfl (fun hlt => ?_) (fun hlt => ?_))
      | (first | refine S.geq rfl rfl (fun hlt => ?_) (fun hlt => by exfalso; omega) | refine S.geq rfl rfl (fun hlt => by exfalso; omega) (fun hlt => ?_) | refine S.geq rfl rfl (fun hlt => ?_) (fun hlt => ?_))
      | (first | refine S.eqInt rfl rfl (fun hlt => ?_) (fun hlt => by exfalso; omega) | refine S.eqInt rfl rfl (fun hlt => by exfalso; omega) (fun hlt => ?_) | refine S.eqInt rfl rfl (fun hlt => ?_) (fun hlt => ?_)))
    | (refine S.op0 rfl ?_; first | refine S.storeS rfl rfl rfl (by rfl) rfl (by first | decide | exact Nat.le_refl _ | exact Nat.le_of_ble_eq_true rfl) ?_ | refine S.store rfl rfl (by (repeat' (first | assumption | exact AHeap.set_same _ _ _ | refine AHeap.get_fresh (by assumption) ?_ | refine AHeap.so ?_ ?_ | exact AHeap.n1 (by assumption) | exact AHeap.n2 (by assumption) | exact AHeap.ne_of (by assumption) (by assumption) | exact AHeap.n4 (by assumption) (by assumption) | exact AHeap.n5 (by assumption) | exact AHeap.n6 (by assumption) | exact AHeap.n7 (by assumption) (by assumption) | exact AHeap.n8 (by assumption) (by assumption))); first | done | fail) rfl rfl rfl (by rfl) rfl ?_)
    | refine S.skip rfl ?_
    | refine S.skip0 rfl ?_
    | refine S.seq ?_
    | refine S.region ?_
    | refine S.regionT ?_
    | refine S.tstep ?_
    | refine S.talt ?_ ?_
    | exact S.tstop
    | refine S.tdone ?_
    | refine S.condT rfl ?_
    | refine S.condF rfl ?_
    | refine RRun.skip ?_
    | refine RRun.block ?_
    | refine RRun.inBlock ?_
    | refine RRun.exit rfl ?_)
  refine S.op rfl (R.call rfl rfl (ACalls.mono (next_spec H hwl) ?_))
  rintro _ h3 ⟨rfl, H3⟩
  rw [g1, g2]
  have hb3 := H3.fr b _ hb
  repeat' (first
    | refine S.nilK ?_
    | (refine S.op rfl ?_; first
      | refine R.callQ (by decide) rfl (ACalls.args (sameMsgs_spec [x] (by intro y hy; rw [List.mem_singleton] at hy; subst hy; exact hfit) (Nat.le_of_ble_eq_true rfl) _) (oneMsg_le x)) ?_
      | refine R.mv rfl ?_
      | refine R.fieldAddr rfl ?_
      | refine R.fieldAddrR rfl ?_
      | refine R.nilCheck rfl ?_
      | refine R.nilCheckR rfl ?_
      | refine R.loadR rfl rfl ?_
      | refine R.load (by decide) rfl (by (repeat' (first | assumption | exact AHeap.set_same _ _ _ | refine AHeap.get_fresh (by assumption) ?_ | refine AHeap.so ?_ ?_ | exact AHeap.n1 (by assumption) | exact AHeap.n2 (by assumption) | exact AHeap.ne_of (by assumption) (by assumption) | exact AHeap.n4 (by assumption) (by assumption) | exact AHeap.n5 (by assumption) | exact AHeap.n6 (by assumption) | exact AHeap.n7 (by assumption) (by assumption) | exact AHeap.n8 (by assumption) (by assumption))); first | done | fail) rfl ?_
      | refine S.addI rfl rfl (by omega) ?_
      | refine S.subI rfl rfl (by omega) ?_
      | refine S.addU rfl rfl ?_
      | refine S.subU rfl rfl ?_
      | refine S.addUc rfl (by decide) ?_
      | refine S.subUc rfl (by decide) ?_
      | refine S.arith rfl rfl rfl ?_
      | refine R.pickT rfl rfl ?_
      | refine R.pickF rfl rfl ?_
      | refine R.len rfl ?_
      | refine R.lenA rfl ?_
      | refine R.lenStr rfl ?_
      | refine S.convIU rfl (by omega) ?_
      | refine S.convUI rfl (by omega) ?_
      | refine R.convInt rfl ?_
      | refine R.not rfl ?_
      | refine R.eqPtrNil rfl rfl ?_
      | refine R.extract rfl rfl ?_
      | refine R.field rfl rfl ?_
      | refine R.alloc rfl (fun b hb => ?_)
      | refine R.box rfl rfl rfl (fun b hb => ?_)
      | refine R.build rfl rfl ?_
      | refine R.buildSl rfl rfl rfl (by decide) ?_
      | refine R.toStr rfl ?_
      | refine R.convStr rfl ?_
      | refine R.minmax rfl ?_
      | refine R.makeFunc rfl rfl ?_
      | (first | refine S.lss rfl rfl (fun hlt => ?_) (fun hlt => by exfalso; omega) | refine S.lss rfl rfl (fun hlt => by exfalso; omega) (fun hlt => ?_) | refine S.lss rfl rfl (fun hlt => ?_) (fun hlt => ?_))
      | (first | refine S.gtr rfl rfl (fun hlt => ?_) (fun hlt => by exfalso; omega) | refine S.gtr rfl rfl (fun hlt => by exfalso; omega) (fun hlt => ?_) | refine S.gtr rfl rfl (fun hlt => ?_) (fun hlt => ?_))
      | (first | refine S.leq rfl rfl (fun hlt => ?_) (fun hlt => by exfalso; omega) | refine S.leq rfl rfl (fun hlt => by exfalso; omega) (fun hlt => ?_) | refine S.leq rfl rfl (fun hlt => ?_) (fun hlt => ?_))
      | (first | refine S.geq rfl rfl (fun hlt => ?_) (fun hlt => by exfalso; omega) | refine S.geq rfl rfl (fun hlt => by exfalso; omega) (fun hlt => ?_) | refine S.geq rfl rfl (fun hlt => ?_) (fun hlt => ?_))
      | (first | refine S.eqInt rfl rfl (fun hlt => ?_) (fun hlt => by exfalso; omega) | refine S.eqInt rfl rfl (fun hlt => by exfalso; omega) (fun hlt => ?_) | refine S.eqInt rfl rfl (fun hlt => ?_) (fun hlt => ?_)))
    | (refine S.op0 rfl ?_; first | refine S.storeS rfl rfl rfl (by rfl) rfl (by first | decide | exact Nat.le_refl _ | exact Nat.le_of_ble_eq_true rfl) ?_ | refine S.store rfl rfl (by (repeat' (first | assumption | exact AHeap.set_same _ _ _ | refine AHeap.get_fresh (by assumption) ?_ | refine AHeap.so ?_ ?_ | exact AHeap.n1 (by assumption) | exact AHeap.n2 (by assumption) | exact AHeap.ne_of (by assumption) (by assumption) | exact AHeap.n4 (by assumption) (by assumption) | exact AHeap.n5 (by assumption) | exact AHeap.n6 (by assumption) | exact AHeap.n7 (by assumption) (by assumption) | exact AHeap.n8 (by assumption) (by assumption))); first | done | fail) rfl rfl rfl (by rfl) rfl ?_)
    | refine S.skip rfl ?_
    | refine S.skip0 rfl ?_
    | refine S.seq ?_
    | refine S.region ?_
    | refine S.regionT ?_
    | refine S.tstep ?_
    | refine S.talt ?_ ?_
    | exact S.tstop
    | refine S.tdone ?_
    | refine S.condT rfl ?_
    | refine S.condF rfl ?_
    | refine RRun.skip ?_
    | refine RRun.block ?_
    | refine RRun.inBlock ?_
    | refine RRun.exit rfl ?_)
  exact S.keep [39, 38, 37, 0, 1, 5] rfl (hk _ (H3.alloc _ (by assumption)))

theorem pend_le (c : List ((UInt64 × UInt64) × Bool)) (l : List Msg) : (pend c l).length ≤ l.length := by simp only [pend, List.length_map]; exact List.length_filter_le _ _
theorem pend_skip {c : List ((UInt64 × UInt64) × Bool)} {x : Msg} {l : List Msg} (h : keepB c x = false) : pend c (x :: l) = pend c l := by simp [pend, h]
theorem pend_go {c : List ((UInt64 × UInt64) × Bool)} {x : Msg} {l : List Msg} (h : keepB c x = true) : pend c (x :: l) = ⟨x, 0⟩ :: pend c l := by simp [pend, h]

theorem it_small (n : Nat) (l : List Msg) (hl : l.length = n) (hn : n ≤ 30) {x : Msg} (i : Nat) (hi : i < n) (hgi : (l.map Msg.cells)[((i : Nat) : Int).toNat]? = some x.cells) (b1 b2 : Bool) (c12 : ∀ h, ACalls Try.prog 12 [entries x.ents] h (fun y h' => y = bl b1 ∧ h' = h)) (c11 : ∀ h, ACalls Try.prog 11 [.ag x.snap.cells] h (fun y h' => y = bl b2 ∧ h' = h))
    (hb : b1 = false ∨ b2 = false) (cut : AV) {p : Nat} {h₀ h : AHeap} (k : List RT) (hle : ∀ b o, h b = none → h₀.le (h.set b o)) :
    RRun Try.prog Try.f4 113 (.inLoop r4l0 :: .inBlock 0 :: k) (Env.get [(39, i64 i), (38, i64 n), (37, msgs l), (0, msgs l), (1, cut), (5, ptr p)]) h (Weak fun x h' => x = bl true ∧ h' = h₀) := by
  have hlen0 : (l.map Msg.cells).length = n := by simp [hl]
  refine RRun.inLoop ?_
  cases b1 with
  | false =>
    repeat' (first
      | refine S.nilK ?_
      | (refine S.op rfl ?_; first
        | refine R.indexAddr rfl rfl (by omega) hgi ?_
        | refine R.callQ (by decide) rfl (c12 _) ?_
        | refine R.callQ (by decide) rfl (c11 _) ?_
        | refine R.mv rfl ?_
        | refine R.fieldAddr rfl ?_
        | refine R.fieldAddrR rfl ?_
        | refine R.nilCheck rfl ?_
        | refine R.nilCheckR rfl ?_
        | refine R.loadR rfl rfl ?_
        | refine R.load (by decide) rfl (by (repeat' (first | assumption | exact AHeap.set_same _ _ _ | refine AHeap.get_fresh (by assumption) ?_ | refine AHeap.so ?_ ?_ | exact AHeap.n1 (by assumption) | exact AHeap.n2 (by assumption) | exact AHeap.ne_of (by assumption) (by assumption) | exact AHeap.n4 (by assumption) (by assumption) | exact AHeap.n5 (by assumption) | exact AHeap.n6 (by assumption) | exact AHeap.n7 (by assumption) (by assumption) | exact AHeap.n8 (by assumption) (by assumption))); first | done | fail) rfl ?_
        | refine S.addI rfl rfl (by omega) ?_
        | refine S.subI rfl rfl (by omega) ?_
        | refine S.addU rfl rfl ?_
        | refine S.subU rfl rfl ?_
        | refine S.addUc rfl (by decide) ?_
        | refine S.subUc rfl (by decide) ?_
        | refine S.arith rfl rfl rfl ?_
        | refine R.pickT rfl rfl ?_
        | refine R.pickF rfl rfl ?_
        | refine R.len rfl ?_
        | refine R.lenA rfl ?_
        | refine R.lenStr rfl ?_
        | refine S.convIU rfl (by omega) ?_
        | refine S.convUI rfl (by omega) ?_
        | refine R.convInt rfl ?_
        | refine R.not rfl ?_
        | refine R.eqPtrNil rfl rfl ?_
        | refine R.extract rfl rfl ?_
        | refine R.field rfl rfl ?_
        | refine R.alloc rfl (fun b hb => ?_)
        | refine R.box rfl rfl rfl (fun b hb => ?_)
        | refine R.build rfl rfl ?_
        | refine R.buildSl rfl rfl rfl (by decide) ?_
        | refine R.toStr rfl ?_
        | refine R.convStr rfl ?_
        | refine R.minmax rfl ?_
        | refine R.makeFunc rfl rfl ?_
        | (first | refine S.lss rfl rfl (fun hlt => ?_) (fun hlt => by exfalso; omega) | refine S.lss rfl rfl (fun hlt => by exfalso; omega) (fun hlt => ?_) | refine S.lss rfl rfl (fun hlt => ?_) (fun hlt => ?_))
        | (first | refine S.gtr rfl rfl (fun hlt => ?_) (fun hlt => by exfalso; omega) | refine S.gtr rfl rfl (fun hlt => by exfalso; omega) (fun hlt => ?_) | refine S.gtr rfl rfl (fun hlt => ?_) (fun hlt => ?_))
        | (first | refine S.leq rfl rfl (fun hlt => ?_) (fun hlt => by exfalso; omega) | refine S.leq rfl rfl (fun hlt => by exfalso; omega) (fun hlt => ?_) | refine S.leq rfl rfl (fun hlt => ?_) (fun hlt => ?_))
        | (first | refine S.geq rfl rfl (fun hlt => ?_) (fun hlt => by exfalso; omega) | refine S.geq rfl rfl (fun hlt => by exfalso; omega) (fun hlt => ?_) | refine S.geq rfl rfl (fun hlt => ?_) (fun hlt => ?_))
        | (first | refine S.eqInt rfl rfl (fun hlt => ?_) (fun hlt => by exfalso; omega) | refine S.eqInt rfl rfl (fun hlt => by exfalso; omega) (fun hlt => ?_) | refine S.eqInt rfl rfl (fun hlt => ?_) (fun hlt => ?_)))
      | (refine S.op0 rfl ?_; first | refine S.storeS rfl rfl rfl (by rfl) rfl (by first | decide | exact Nat.le_refl _ | exact Nat.le_of_ble_eq_true rfl) ?_ | refine S.store rfl rfl (by (repeat' (first | assumption | exact AHeap.set_same _ _ _ | refine AHeap.get_fresh (by assumption) ?_ | refine AHeap.so ?_ ?_ | exact AHeap.n1 (by assumption) | exact AHeap.n2 (by assumption) | exact AHeap.ne_of (by assumption) (by assumption) | exact AHeap.n4 (by assumption) (by assumption) | exact AHeap.n5 (by assumption) | exact AHeap.n6 (by assumption) | exact AHeap.n7 (by assumption) (by assumption) | exact AHeap.n8 (by assumption) (by assumption))); first | done | fail) rfl rfl rfl (by rfl) rfl ?_)
      | refine S.skip rfl ?_
      | refine S.skip0 rfl ?_
      | refine S.seq ?_
      | refine S.region ?_
      | refine S.regionT ?_
      | refine S.tstep ?_
      | refine S.talt ?_ ?_
      | exact S.tstop
      | refine S.tdone ?_
      | refine S.condT rfl ?_
      | refine S.condF rfl ?_
      | refine RRun.skip ?_
      | refine RRun.block ?_
      | refine RRun.inBlock ?_
      | refine RRun.exit rfl ?_)
    apply S.ret rr4
    case hx => repeat (first | exact ResAt.nil | apply ResAt.tmp rfl | apply ResAt.cellA rfl (by (repeat' (first | assumption | exact AHeap.set_same _ _ _ | refine AHeap.get_fresh (by assumption) ?_ | refine AHeap.so ?_ ?_ | exact AHeap.n1 (by assumption) | exact AHeap.n2 (by assumption) | exact AHeap.ne_of (by assumption) (by assumption) | exact AHeap.n4 (by assumption) (by assumption) | exact AHeap.n5 (by assumption) | exact AHeap.n6 (by assumption) | exact AHeap.n7 (by assumption) (by assumption) | exact AHeap.n8 (by assumption) (by assumption))); first | done | fail) (by rfl) | apply ResAt.cell1 rfl (by (repeat' (first | assumption | exact AHeap.set_same _ _ _ | refine AHeap.get_fresh (by assumption) ?_ | refine AHeap.so ?_ ?_ | exact AHeap.n1 (by assumption) | exact AHeap.n2 (by assumption) | exact AHeap.ne_of (by assumption) (by assumption) | exact AHeap.n4 (by assumption) (by assumption) | exact AHeap.n5 (by assumption) | exact AHeap.n6 (by assumption) | exact AHeap.n7 (by assumption) (by assumption) | exact AHeap.n8 (by assumption) (by assumption))); first | done | fail) (by rfl))
    exact ⟨_, _, .refl _, hle _ _ (by assumption), rfl, rfl⟩
  | true => cases b2 with
    | false =>
      repeat' (first
        | refine S.nilK ?_
        | (refine S.op rfl ?_; first
          | refine R.indexAddr rfl rfl (by omega) hgi ?_
          | refine R.callQ (by decide) rfl (c12 _) ?_
          | refine R.callQ (by decide) rfl (c11 _) ?_
          | refine R.mv rfl ?_
          | refine R.fieldAddr rfl ?_
          | refine R.fieldAddrR rfl ?_
          | refine R.nilCheck rfl ?_
          | refine R.nilCheckR rfl ?_
          | refine R.loadR rfl rfl ?_
          | refine R.load (by decide) rfl (by (repeat' (first | assumption | exact AHeap.set_same _ _ _ | refine AHeap.get_fresh (by assumption) ?_ | refine AHeap.so ?_ ?_ | exact AHeap.n1 (by assumption) | exact AHeap.n2 (by assumption) | exact AHeap.ne_of (by assumption) (by assumption) | exact AHeap.n4 (by assumption) (by assumption) | exact AHeap.n5 (by assumption) | exact AHeap.n6 (by assumption) | exact AHeap.n7 (by assumption) (by assumption) | exact AHeap.n8 (by assumption) (by assumption))); first | done | fail) rfl ?_
          | refine S.addI rfl rfl (by omega) ?_
          | refine S.subI rfl rfl (by omega) ?_
          | refine S.addU rfl rfl ?_
          | refine S.subU rfl rfl ?_
          | refine S.addUc rfl (by decide) ?_
          | refine S.subUc rfl (by decide) ?_
          | refine S.arith rfl rfl rfl ?_
          | refine R.pickT rfl rfl ?_
          | refine R.pickF rfl rfl ?_
          | refine R.len rfl ?_
          | refine R.lenA rfl ?_
          | refine R.lenStr rfl ?_
          | refine S.convIU rfl (by omega) ?_
          | refine S.convUI rfl (by omega) ?_
          | refine R.convInt rfl ?_
          | refine R.not rfl ?_
          | refine R.eqPtrNil rfl rfl ?_
          | refine R.extract rfl rfl ?_
          | refine R.field rfl rfl ?_
          | refine R.alloc rfl (fun b hb => ?_)
          | refine R.box rfl rfl rfl (fun b hb => ?_)
          | refine R.build rfl rfl ?_
          | refine R.buildSl rfl rfl rfl (by decide) ?_
          | refine R.toStr rfl ?_
          | refine R.convStr rfl ?_
          | refine R.minmax rfl ?_
          | refine R.makeFunc rfl rfl ?_
          | (first | refine S.lss rfl rfl (fun hlt => ?_) (fun hlt => by exfalso; omega) | refine S.lss rfl rfl (fun hlt => by exfalso; omega) (fun hlt => ?_) | refine S.lss rfl rfl (fun hlt => ?_) (fun hlt => ?_))
          | (first | refine S.gtr rfl rfl (fun hlt => ?_) (fun hlt => by exfalso; omega) | refine S.gtr rfl rfl (fun hlt => by exfalso; omega) (fun hlt => ?_) | refine S.gtr rfl rfl (fun hlt => ?_) (fun hlt => ?_))
          | (first | refine S.leq rfl rfl (fun hlt => ?_) (fun hlt => by exfalso; omega) | refine S.leq rfl rfl (fun hlt => by exfalso; omega) (fun hlt => ?_) | refine S.leq rfl rfl (fun hlt => ?_) (fun hlt => ?_))
          | (first | refine S.geq rfl rfl (fun hlt => ?_) (fun hlt => by exfalso; omega) | refine S.geq rfl rfl (fun hlt => by exfalso; omega) (fun hlt => ?_) | refine S.geq rfl rfl (fun hlt => ?_) (fun hlt => ?_))
          | (first | refine S.eqInt rfl rfl (fun hlt => ?_) (fun hlt => by exfalso; omega) | refine S.eqInt rfl rfl (fun hlt => by exfalso; omega) (fun hlt => ?_) | refine S.eqInt rfl rfl (fun hlt => ?_) (fun hlt => ?_)))
        | (refine S.op0 rfl ?_; first | refine S.storeS rfl rfl rfl (by rfl) rfl (by first | decide | exact Nat.le_refl _ | exact Nat.le_of_ble_eq_true rfl) ?_ | refine S.store rfl rfl (by (repeat' (first | assumption | exact AHeap.set_same _ _ _ | refine AHeap.get_fresh (by assumption) ?_ | refine AHeap.so ?_ ?_ | exact AHeap.n1 (by assumption) | exact AHeap.n2 (by assumption) | exact AHeap.ne_of (by assumption) (by assumption) | exact AHeap.n4 (by assumption) (by assumption) | exact AHeap.n5 (by assumption) | exact AHeap.n6 (by assumption) | exact AHeap.n7 (by assumption) (by assumption) | exact AHeap.n8 (by assumption) (by assumption))); first | done | fail) rfl rfl rfl (by rfl) rfl ?_)
        | refine S.skip rfl ?_
        | refine S.skip0 rfl ?_
        | refine S.seq ?_
        | refine S.region ?_
        | refine S.regionT ?_
        | refine S.tstep ?_
        | refine S.talt ?_ ?_
        | exact S.tstop
        | refine S.tdone ?_
        | refine S.condT rfl ?_
        | refine S.condF rfl ?_
        | refine RRun.skip ?_
        | refine RRun.block ?_
        | refine RRun.inBlock ?_
        | refine RRun.exit rfl ?_)
      apply S.ret rr4
      case hx => repeat (first | exact ResAt.nil | apply ResAt.tmp rfl | apply ResAt.cellA rfl (by (repeat' (first | assumption | exact AHeap.set_same _ _ _ | refine AHeap.get_fresh (by assumption) ?_ | refine AHeap.so ?_ ?_ | exact AHeap.n1 (by assumption) | exact AHeap.n2 (by assumption) | exact AHeap.ne_of (by assumption) (by assumption) | exact AHeap.n4 (by assumption) (by assumption) | exact AHeap.n5 (by assumption) | exact AHeap.n6 (by assumption) | exact AHeap.n7 (by assumption) (by assumption) | exact AHeap.n8 (by assumption) (by assumption))); first | done | fail) (by rfl) | apply ResAt.cell1 rfl (by (repeat' (first | assumption | exact AHeap.set_same _ _ _ | refine AHeap.get_fresh (by assumption) ?_ | refine AHeap.so ?_ ?_ | exact AHeap.n1 (by assumption) | exact AHeap.n2 (by assumption) | exact AHeap.ne_of (by assumption) (by assumption) | exact AHeap.n4 (by assumption) (by assumption) | exact AHeap.n5 (by assumption) | exact AHeap.n6 (by assumption) | exact AHeap.n7 (by assumption) (by assumption) | exact AHeap.n8 (by assumption) (by assumption))); first | done | fail) (by rfl))
      exact ⟨_, _, .refl _, hle _ _ (by assumption), rfl, rfl⟩
    | true => rcases hb with hb | hb <;> cases hb

def r4k (k : List RT) : List RT := .code (.region [⟨(some 105), none, .act, .bin .add (.tmp 39) (.const (.int .i64 1))⟩, ⟨(some 39), none, .act, .mv (.tmp 105)⟩]) :: .inLoop r4l0 :: .inBlock 0 :: k

theorem it_free (n : Nat) (l : List Msg) (hl : l.length = n) (hn : n ≤ 30) {x : Msg} (i : Nat) (hi : i < n) (hgi : (l.map Msg.cells)[((i : Nat) : Int).toNat]? = some x.cells) (c12 : ∀ h, ACalls Try.prog 12 [entries x.ents] h (fun y h' => y = bl true ∧ h' = h)) (c11 : ∀ h, ACalls Try.prog 11 [.ag x.snap.cells] h (fun y h' => y = bl true ∧ h' = h))
    {p : Nat} {h : AHeap} (k : List RT) (Q : AV → AHeap → Prop)
    (hgo : ∀ {b : Nat} (hb : h b = none), RRun Try.prog Try.f4 113 (.code r4g :: .inBlock 1 :: r4k k) (Env.get [(39, i64 i), (38, i64 n), (37, msgs l), (0, msgs l), (1, bl false), (5, ptr p), (7, ptr b)]) (h.set b (.box x.cells)) Q) :
    RRun Try.prog Try.f4 113 (.inLoop r4l0 :: .inBlock 0 :: k) (Env.get [(39, i64 i), (38, i64 n), (37, msgs l), (0, msgs l), (1, bl false), (5, ptr p)]) h Q := by
  have hlen0 : (l.map Msg.cells).length = n := by simp [hl]
  refine RRun.inLoop ?_
  repeat' (first
    | (exact S.keep [39, 38, 37, 0, 1, 5, 7] rfl (hgo (by assumption)))
    | refine S.nilK ?_
    | (refine S.op rfl ?_; first
      | refine R.indexAddr rfl rfl (by omega) hgi ?_
      | refine R.callQ (by decide) rfl (c12 _) ?_
      | refine R.callQ (by decide) rfl (c11 _) ?_
      | refine R.mv rfl ?_
      | refine R.fieldAddr rfl ?_
      | refine R.fieldAddrR rfl ?_
      | refine R.nilCheck rfl ?_
      | refine R.nilCheckR rfl ?_
      | refine R.loadR rfl rfl ?_
      | refine R.load (by decide) rfl (by (repeat' (first | assumption | exact AHeap.set_same _ _ _ | refine AHeap.get_fresh (by assumption) ?_ | refine AHeap.so ?_ ?_ | exact AHeap.n1 (by assumption) | exact AHeap.n2 (by assumption) | exact AHeap.ne_of (by assumption) (by assumption) | exact AHeap.n4 (by assumption) (by assumption) | exact AHeap.n5 (by assumption) | exact AHeap.n6 (by assumption) | exact AHeap.n7 (by assumption) (by assumption) | exact AHeap.n8 (by assumption) (by assumption))); first | done | fail) rfl ?_
      | refine S.addI rfl rfl (by omega) ?_
      | refine S.subI rfl rfl (by omega) ?_
      | refine S.addU rfl rfl ?_
      | refine S.subU rfl rfl ?_
      | refine S.addUc rfl (by decide) ?_
      | refine S.subUc rfl (by decide) ?_
      | refine S.arith rfl rfl rfl ?_
      | refine R.pickT rfl rfl ?_
      | refine R.pickF rfl rfl ?_
      | refine R.len rfl ?_
      | refine R.lenA rfl ?_
      | refine R.lenStr rfl ?_
      | refine S.convIU rfl (by omega) ?_
      | refine S.convUI rfl (by omega) ?_
      | refine R.convInt rfl ?_
      | refine R.not rfl ?_
      | refine R.eqPtrNil rfl rfl ?_
      | refine R.extract rfl rfl ?_
      | refine R.field rfl rfl ?_
      | refine R.alloc rfl (fun b hb => ?_)
      | refine R.box rfl rfl rfl (fun b hb => ?_)
      | refine R.build rfl rfl ?_
      | refine R.buildSl rfl rfl rfl (by decide) ?_
      | refine R.toStr rfl ?_
      | refine R.convStr rfl ?_
      | refine R.minmax rfl ?_
      | refine R.makeFunc rfl rfl ?_
      | (first | refine S.lss rfl rfl (fun hlt => ?_) (fun hlt => by exfalso; omega) | refine S.lss rfl rfl (fun hlt => by exfalso; omega) (fun hlt => ?_) | refine S.lss rfl rfl (fun hlt => ?_) (fun hlt => ?_))
      | (first | refine S.gtr rfl rfl (fun hlt => ?_) (fun hlt => by exfalso; omega) | refine S.gtr rfl rfl (fun hlt => by exfalso; omega) (fun hlt => ?_) | refine S.gtr rfl rfl (fun hlt => ?_) (fun hlt => ?_))
      | (first | refine S.leq rfl rfl (fun hlt => ?_) (fun hlt => by exfalso; omega) | refine S.leq rfl rfl (fun hlt => by exfalso; omega) (fun hlt => ?_) | refine S.leq rfl rfl (fun hlt => ?_) (fun hlt => ?_))
      | (first | refine S.geq rfl rfl (fun hlt => ?_) (fun hlt => by exfalso; omega) | refine S.geq rfl rfl (fun hlt => by exfalso; omega) (fun hlt => ?_) | refine S.geq rfl rfl (fun hlt => ?_) (fun hlt => ?_))
      | (first | refine S.eqInt rfl rfl (fun hlt => ?_) (fun hlt => by exfalso; omega) | refine S.eqInt rfl rfl (fun hlt => by exfalso; omega) (fun hlt => ?_) | refine S.eqInt rfl rfl (fun hlt => ?_) (fun hlt => ?_)))
    | (refine S.op0 rfl ?_; first | refine S.storeS rfl rfl rfl (by rfl) rfl (by first | decide | exact Nat.le_refl _ | exact Nat.le_of_ble_eq_true rfl) ?_ | refine S.store rfl rfl (by (repeat' (first | assumption | exact AHeap.set_same _ _ _ | refine AHeap.get_fresh (by assumption) ?_ | refine AHeap.so ?_ ?_ | exact AHeap.n1 (by assumption) | exact AHeap.n2 (by assumption) | exact AHeap.ne_of (by assumption) (by assumption) | exact AHeap.n4 (by assumption) (by assumption) | exact AHeap.n5 (by assumption) | exact AHeap.n6 (by assumption) | exact AHeap.n7 (by assumption) (by assumption) | exact AHeap.n8 (by assumption) (by assumption))); first | done | fail) rfl rfl rfl (by rfl) rfl ?_)
    | refine S.skip rfl ?_
    | refine S.skip0 rfl ?_
    | refine S.seq ?_
    | refine S.region ?_
    | refine S.regionT ?_
    | refine S.tstep ?_
    | refine S.talt ?_ ?_
    | exact S.tstop
    | refine S.tdone ?_
    | refine S.condT rfl ?_
    | refine S.condF rfl ?_
    | refine RRun.skip ?_
    | refine RRun.block ?_
    | refine RRun.inBlock ?_
    | refine RRun.exit rfl ?_)

set_option maxHeartbeats 4000000 in
theorem it_cut (n : Nat) (l : List Msg) (hl : l.length = n) (hn : n ≤ 30) {x a : Msg} (i : Nat) (hi : i < n) (hgi : (l.map Msg.cells)[((i : Nat) : Int).toNat]? = some x.cells) (hg0 : (l.map Msg.cells)[(0 : Int).toNat]? = some a.cells) (c12 : ∀ h, ACalls Try.prog 12 [entries x.ents] h (fun y h' => y = bl true ∧ h' = h)) (c11 : ∀ h, ACalls Try.prog 11 [.ag x.snap.cells] h (fun y h' => y = bl true ∧ h' = h))
    {p : Nat} {h : AHeap} (k : List RT) (Q : AV → AHeap → Prop)
    (hskip : ∀ {b : Nat} (hb : h b = none), same2 x a → RRun Try.prog Try.f4 113 (r4k k) (Env.get [(39, i64 i), (38, i64 n), (37, msgs l), (0, msgs l), (1, bl true), (5, ptr p)]) (h.set b (.box x.cells)) Q)
    (hgo : ∀ {b : Nat} (hb : h b = none), ¬ same2 x a → RRun Try.prog Try.f4 113 (.code r4g :: .inBlock 1 :: r4k k) (Env.get [(39, i64 i), (38, i64 n), (37, msgs l), (0, msgs l), (1, bl true), (5, ptr p), (7, ptr b)]) (h.set b (.box x.cells)) Q) :
    RRun Try.prog Try.f4 113 (.inLoop r4l0 :: .inBlock 0 :: k) (Env.get [(39, i64 i), (38, i64 n), (37, msgs l), (0, msgs l), (1, bl true), (5, ptr p)]) h Q := by
  have hlen0 : (l.map Msg.cells).length = n := by simp [hl]
  refine RRun.inLoop ?_
  repeat' (first
    | (exact S.keep [39, 38, 37, 0, 1, 5, 7] rfl (hgo (by assumption) (by unfold same2; omega)))
    | (exact S.keep [39, 38, 37, 0, 1, 5] rfl (hskip (by assumption) (by unfold same2; omega)))
    | refine S.nilK ?_
    | (refine S.op rfl ?_; first
      | refine R.indexAddr rfl rfl (by omega) hgi ?_
      | refine R.indexAddr rfl rfl (by omega) hg0 ?_
      | refine R.callQ (by decide) rfl (c12 _) ?_
      | refine R.callQ (by decide) rfl (c11 _) ?_
      | refine R.mv rfl ?_
      | refine R.fieldAddr rfl ?_
      | refine R.fieldAddrR rfl ?_
      | refine R.nilCheck rfl ?_
      | refine R.nilCheckR rfl ?_
      | refine R.loadR rfl rfl ?_
      | refine R.load (by decide) rfl (by (repeat' (first | assumption | exact AHeap.set_same _ _ _ | refine AHeap.get_fresh (by assumption) ?_ | refine AHeap.so ?_ ?_ | exact AHeap.n1 (by assumption) | exact AHeap.n2 (by assumption) | exact AHeap.ne_of (by assumption) (by assumption) | exact AHeap.n4 (by assumption) (by assumption) | exact AHeap.n5 (by assumption) | exact AHeap.n6 (by assumption) | exact AHeap.n7 (by assumption) (by assumption) | exact AHeap.n8 (by assumption) (by assumption))); first | done | fail) rfl ?_
      | refine S.addI rfl rfl (by omega) ?_
      | refine S.subI rfl rfl (by omega) ?_
      | refine S.addU rfl rfl ?_
      | refine S.subU rfl rfl ?_
      | refine S.addUc rfl (by decide) ?_
      | refine S.subUc rfl (by decide) ?_
      | refine S.arith rfl rfl rfl ?_
      | refine R.pickT rfl rfl ?_
      | refine R.pickF rfl rfl ?_
      | refine R.len rfl ?_
      | refine R.lenA rfl ?_
      | refine R.lenStr rfl ?_
      | refine S.convIU rfl (by omega) ?_
      | refine S.convUI rfl (by omega) ?_
      | refine R.convInt rfl ?_
      | refine R.not rfl ?_
      | refine R.eqPtrNil rfl rfl ?_
      | refine R.extract rfl rfl ?_
      | refine R.field rfl rfl ?_
      | refine R.alloc rfl (fun b hb => ?_)
      | refine R.box rfl rfl rfl (fun b hb => ?_)
      | refine R.build rfl rfl ?_
      | refine R.buildSl rfl rfl rfl (by decide) ?_
      | refine R.toStr rfl ?_
      | refine R.convStr rfl ?_
      | refine R.minmax rfl ?_
      | refine R.makeFunc rfl rfl ?_
      | (first | refine S.lss rfl rfl (fun hlt => ?_) (fun hlt => by exfalso; omega) | refine S.lss rfl rfl (fun hlt => by exfalso; omega) (fun hlt => ?_) | refine S.lss rfl rfl (fun hlt => ?_) (fun hlt => ?_))
      | (first | refine S.gtr rfl rfl (fun hlt => ?_) (fun hlt => by exfalso; omega) | refine S.gtr rfl rfl (fun hlt => by exfalso; omega) (fun hlt => ?_) | refine S.gtr rfl rfl (fun hlt => ?_) (fun hlt => ?_))
      | (first | refine S.leq rfl rfl (fun hlt => ?_) (fun hlt => by exfalso; omega) | refine S.leq rfl rfl (fun hlt => by exfalso; omega) (fun hlt => ?_) | refine S.leq rfl rfl (fun hlt => ?_) (fun hlt => ?_))
      | (first | refine S.geq rfl rfl (fun hlt => ?_) (fun hlt => by exfalso; omega) | refine S.geq rfl rfl (fun hlt => by exfalso; omega) (fun hlt => ?_) | refine S.geq rfl rfl (fun hlt => ?_) (fun hlt => ?_))
      | (first | refine S.eqInt rfl rfl (fun hlt => ?_) (fun hlt => by exfalso; omega) | refine S.eqInt rfl rfl (fun hlt => by exfalso; omega) (fun hlt => ?_) | refine S.eqInt rfl rfl (fun hlt => ?_) (fun hlt => ?_)))
    | (refine S.op0 rfl ?_; first | refine S.storeS rfl rfl rfl (by rfl) rfl (by first | decide | exact Nat.le_refl _ | exact Nat.le_of_ble_eq_true rfl) ?_ | refine S.store rfl rfl (by (repeat' (first | assumption | exact AHeap.set_same _ _ _ | refine AHeap.get_fresh (by assumption) ?_ | refine AHeap.so ?_ ?_ | exact AHeap.n1 (by assumption) | exact AHeap.n2 (by assumption) | exact AHeap.ne_of (by assumption) (by assumption) | exact AHeap.n4 (by assumption) (by assumption) | exact AHeap.n5 (by assumption) | exact AHeap.n6 (by assumption) | exact AHeap.n7 (by assumption) (by assumption) | exact AHeap.n8 (by assumption) (by assumption))); first | done | fail) rfl rfl rfl (by rfl) rfl ?_)
    | refine S.skip rfl ?_
    | refine S.skip0 rfl ?_
    | refine S.seq ?_
    | refine S.region ?_
    | refine S.regionT ?_
    | refine S.tstep ?_
    | refine S.talt ?_ ?_
    | exact S.tstop
    | refine S.tdone ?_
    | refine S.condT rfl ?_
    | refine S.condF rfl ?_
    | refine RRun.skip ?_
    | refine RRun.block ?_
    | refine RRun.inBlock ?_
    | refine RRun.exit rfl ?_)

end Go.Proofs.Ytnmgamcmjjngcaa
