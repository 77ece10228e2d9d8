import Derived.Test.YtnmgamcmjjngcaaU4
set_option linter.unusedVariables false
set_option linter.unusedSimpArgs false
namespace Go.Proofs.Ytnmgamcmjjngcaa
open Go.Av

def r21l1 : RCode :=
  (.seq (.region [
    ⟨(some 43), none, .act, .bin .lss (.tmp 42) (.tmp 41)⟩])
  (.seq (.cond (.tmp 43)
   .skip
   (.exit 2))
  (.seq (.block 3
   (.region [
     ⟨(some 44), none, .pure, .mv (.tmp 0)⟩,
     ⟨(some 45), none, .pure, .mv (.tmp 0)⟩,
     ⟨(some 46), none, .pure, .nilCheck (.tmp 45)⟩,
     ⟨(some 47), none, .pure, .fieldAddr 4 (.tmp 46)⟩,
     ⟨(some 48), none, .read, .load false 1 (.tmp 47)⟩,
     ⟨(some 49), none, .read, .load true 14 (.tmp 5)⟩,
     ⟨(some 50), none, .read, .call 58 [(.tmp 49)]⟩,
     ⟨(some 51), none, .pure, .mv (.tmp 7)⟩,
     ⟨(some 52), none, .pure, .build [(.int .i64 0), (.int .u64 0), (.int .u64 0), (.int .u64 0), (.int .u64 0), (.int .u64 0), (.int .u64 0), (.int .u64 0), (.bool false), (.slice none 0 0), (.int .u64 0), (.int .u64 0), (.slice none 0 0), (.slice none 0 0), (.int .i64 0)] [(0, 14, (.tmp 50)), (14, 1, (.tmp 51))]⟩,
     ⟨(some 53), none, .pure, .buildSl 15 [(.int .i64 0), (.int .u64 0), (.int .u64 0), (.int .u64 0), (.int .u64 0), (.int .u64 0), (.int .u64 0), (.int .u64 0), (.bool false), (.slice none 0 0), (.int .u64 0), (.int .u64 0), (.slice none 0 0), (.slice none 0 0), (.int .i64 0)] 1 [(0, (.tmp 52))]⟩,
     ⟨(some 54), none, .act, .append 15 168 [(.int .i64 0), (.int .u64 0), (.int .u64 0), (.int .u64 0), (.int .u64 0), (.int .u64 0), (.int .u64 0), (.int .u64 0), (.bool false), (.slice none 0 0), (.int .u64 0), (.int .u64 0), (.slice none 0 0), (.slice none 0 0), (.int .i64 0)] (.tmp 48) (.tmp 53)⟩,
     ⟨(some 55), none, .pure, .nilCheck (.tmp 44)⟩,
     ⟨(some 56), none, .pure, .fieldAddr 4 (.tmp 55)⟩,
     ⟨none, none, .act, .store 1 (.tmp 56) (.tmp 54)⟩]))
  (.region [
    ⟨(some 57), none, .act, .bin .add (.tmp 42) (.const (.int .i64 1))⟩,
    ⟨(some 42), none, .act, .mv (.tmp 57)⟩]))))
def r21l0 : RCode :=
  (.seq (.region [
    ⟨(some 14), none, .act, .bin .lss (.tmp 13) (.tmp 12)⟩])
  (.seq (.cond (.tmp 14)
   .skip
   (.exit 0))
  (.seq (.block 1
   (.seq (.region [
     ⟨(some 15), none, .act, .indexAddr 14 (.tmp 11) (.tmp 13)⟩,
     ⟨(some 16), none, .act, .load true 14 (.tmp 15)⟩,
     ⟨(some 5), none, .act, .alloc [(.int .i64 0), (.int .u64 0), (.int .u64 0), (.int .u64 0), (.int .u64 0), (.int .u64 0), (.int .u64 0), (.int .u64 0), (.bool false), (.slice none 0 0), (.int .u64 0), (.int .u64 0), (.slice none 0 0), (.slice none 0 0)]⟩,
     ⟨none, none, .act, .store 14 (.tmp 5) (.tmp 16)⟩])
   (.seq (.region [
     ⟨(some 17), none, .act, .mv (.tmp 0)⟩,
     ⟨(some 18), none, .act, .call 57 [(.tmp 17)]⟩,
     ⟨(some 6), none, .act, .alloc [(.int .i64 0), (.int .i64 0)]⟩,
     ⟨none, none, .act, .store 2 (.tmp 6) (.tmp 18)⟩])
   (.seq (.seq (.region [
     ⟨(some 19), none, .pure, .mv (.tmp 0)⟩,
     ⟨(some 20), none, .pure, .nilCheck (.tmp 19)⟩,
     ⟨(some 21), none, .pure, .fieldAddr 3 (.tmp 20)⟩,
     ⟨(some 22), none, .read, .load false 1 (.tmp 21)⟩,
     ⟨(some 23), none, .pure, .fieldAddr 1 (.tmp 5)⟩,
     ⟨(some 24), none, .read, .load false 1 (.tmp 23)⟩,
     ⟨(some 25), none, .pure, .fieldAddr 2 (.tmp 5)⟩,
     ⟨(some 26), none, .read, .load false 1 (.tmp 25)⟩,
     ⟨(some 27), none, .read, .call 56 [(.tmp 24), (.tmp 26)]⟩,
     ⟨(some 28), none, .read, .lookup 106 (.bool false) (.tmp 22) (.tmp 27) false⟩])
   (.cond (.tmp 28)
    (.exit 1)
    .skip))
   (.seq (.region [
     ⟨(some 29), none, .pure, .mv (.tmp 0)⟩,
     ⟨(some 30), none, .pure, .nilCheck (.tmp 29)⟩,
     ⟨(some 31), none, .pure, .fieldAddr 2 (.tmp 30)⟩,
     ⟨(some 32), none, .read, .load false 1 (.tmp 31)⟩,
     ⟨(some 33), none, .pure, .fieldAddr 1 (.tmp 6)⟩,
     ⟨(some 34), none, .read, .load false 1 (.tmp 33)⟩,
     ⟨(some 35), none, .pure, .minmax true [(.tmp 34), (.const (.int .i64 0))]⟩,
     ⟨(some 36), none, .pure, .minmax false [(.tmp 35), (.const (.int .i64 100))]⟩,
     ⟨(some 37), none, .pure, .bin .add (.tmp 32) (.tmp 36)⟩,
     ⟨(some 7), none, .pure, .mv (.tmp 37)⟩])
   (.seq (.region [
     ⟨(some 38), none, .act, .fieldAddr 0 (.tmp 6)⟩,
     ⟨(some 39), none, .act, .load false 1 (.tmp 38)⟩,
     ⟨(some 40), none, .act, .minmax true [(.tmp 39), (.const (.int .i64 0))]⟩,
     ⟨(some 41), none, .act, .minmax false [(.tmp 40), (.const (.int .i64 3))]⟩,
     ⟨(some 42), none, .act, .mv (.const (.int .i64 0))⟩])
   (.block 2
    (.loop r21l1))))))))
  (.region [
    ⟨(some 58), none, .act, .bin .add (.tmp 13) (.const (.int .i64 1))⟩,
    ⟨(some 13), none, .act, .mv (.tmp 58)⟩]))))
/-- (*plenum/mesh.Mesh).Send -/
def r21 : RCode :=
  (.seq (.seq (.region [
    ⟨(some 8), none, .act, .mv (.tmp 0)⟩,
    ⟨(some 9), none, .act, .call 55 [(.tmp 8)]⟩,
    ⟨(some 10), none, .act, .un .not (.tmp 9)⟩])
  (.cond (.tmp 10)
   .ret
   .skip))
  (.seq (.region [
    ⟨(some 11), none, .act, .mv (.tmp 1)⟩,
    ⟨(some 12), none, .act, .len (.tmp 11)⟩,
    ⟨(some 13), none, .act, .mv (.const (.int .i64 0))⟩])
  (.block 0
   (.loop r21l0))))
theorem res21 : ∃ c, Try.f21.body = some c ∧ resCode Try.prog 59 c = some r21 := ⟨_, rfl, by kernel_rfl⟩
theorem rr21 : resRes Try.prog Try.f21.results.toList = some [] := by kernel_rfl
theorem send_inner {h₀ : AHeap} (x : Msg) (hx : x.fits) (due : Int) {bx p bm : Nat} (hbx : h₀ bx = some (.box x.cells)) (M : Mesh) (hM : M.wait.length ≤ 999990) (kk : Nat) (hkk : kk ≤ 3) (e13 e12 : Int) (e11 : AV) (k : List RT) (Q : AV → AHeap → Prop)
    (hk : ∀ h, MAt h₀ { M with wait := M.wait ++ List.replicate kk ⟨x, due⟩ } p bm h → RRun Try.prog Try.f21 59 k (Env.get [(13, i64 e13), (12, i64 e12), (11, e11), (0, ptr p)]) h Q) (m : Nat) :
    ∀ (j : Nat) (h : AHeap), j + m = kk → MAt h₀ { M with wait := M.wait ++ List.replicate j ⟨x, due⟩ } p bm h →
      RRun Try.prog Try.f21 59 (.inLoop r21l1 :: .inBlock 2 :: k) (Env.get [(42, i64 j), (41, i64 kk), (0, ptr p), (5, ptr bx), (7, i64 due), (13, i64 e13), (12, i64 e12), (11, e11)]) h Q := by
  induction m with
  | zero =>
    intro j h hj H
    obtain rfl : j = kk := by omega
    refine RRun.inLoop ?_
    repeat' (first
      | refine S.nilK ?_
      | (refine S.op rfl ?_; first
        | refine R.mv rfl ?_
        | refine R.fieldAddr rfl ?_
        | refine R.fieldAddrR rfl ?_
        | refine R.nilCheck rfl ?_
        | refine R.nilCheckR rfl ?_
        | refine R.loadR rfl rfl ?_
        | refine R.load (by decide) rfl (by (repeat' (first | assumption | exact AHeap.set_same _ _ _ | refine AHeap.get_fresh (by assumption) ?_ | refine AHeap.so ?_ ?_ | exact AHeap.n1 (by assumption) | exact AHeap.n2 (by assumption) | exact AHeap.ne_of (by assumption) (by assumption) | exact AHeap.n4 (by assumption) (by assumption) | exact AHeap.n5 (by assumption) | exact AHeap.n6 (by assumption) | exact AHeap.n7 (by assumption) (by assumption) | exact AHeap.n8 (by assumption) (by assumption))); first | done | fail) rfl ?_
        | refine S.addI rfl rfl (by omega) ?_
        | refine S.subI rfl rfl (by omega) ?_
        | refine S.addU rfl rfl ?_
        | refine S.subU rfl rfl ?_
        | refine S.addUc rfl (by decide) ?_
        | refine S.subUc rfl (by decide) ?_
        | refine S.arith rfl rfl rfl ?_
        | refine R.pickT rfl rfl ?_
        | refine R.pickF rfl rfl ?_
        | refine R.len rfl ?_
        | refine R.lenA rfl ?_
        | refine R.lenStr rfl ?_
        | refine S.convIU rfl (by omega) ?_
        | refine S.convUI rfl (by omega) ?_
        | refine R.convInt rfl ?_
        | refine R.not rfl ?_
        | refine R.eqPtrNil rfl rfl ?_
        | refine R.extract rfl rfl ?_
        | refine R.field rfl rfl ?_
        | refine R.alloc rfl (fun b hb => ?_)
        | refine R.box rfl rfl rfl (fun b hb => ?_)
        | refine R.build rfl rfl ?_
        | refine R.buildSl rfl rfl rfl (by decide) ?_
        | refine R.toStr rfl ?_
        | refine R.convStr rfl ?_
        | refine R.minmax rfl ?_
        | refine R.makeFunc rfl rfl ?_
        | (first | refine S.lss rfl rfl (fun hlt => ?_) (fun hlt => by exfalso; omega) | refine S.lss rfl rfl (fun hlt => by exfalso; omega) (fun hlt => ?_) | refine S.lss rfl rfl (fun hlt => ?_) (fun hlt => ?_))
        | (first | refine S.gtr rfl rfl (fun hlt => ?_) (fun hlt => by exfalso; omega) | refine S.gtr rfl rfl (fun hlt => by exfalso; omega) (fun hlt => ?_) | refine S.gtr rfl rfl (fun hlt => ?_) (fun hlt => ?_))
        | (first | refine S.leq rfl rfl (fun hlt => ?_) (fun hlt => by exfalso; omega) | refine S.leq rfl rfl (fun hlt => by exfalso; omega) (fun hlt => ?_) | refine S.leq rfl rfl (fun hlt => ?_) (fun hlt => ?_))
        | (first | refine S.geq rfl rfl (fun hlt => ?_) (fun hlt => by exfalso; omega) | refine S.geq rfl rfl (fun hlt => by exfalso; omega) (fun hlt => ?_) | refine S.geq rfl rfl (fun hlt => ?_) (fun hlt => ?_))
        | (first | refine S.eqInt rfl rfl (fun hlt => ?_) (fun hlt => by exfalso; omega) | refine S.eqInt rfl rfl (fun hlt => by exfalso; omega) (fun hlt => ?_) | refine S.eqInt rfl rfl (fun hlt => ?_) (fun hlt => ?_)))
      | (refine S.op0 rfl ?_; first | refine S.storeS rfl rfl rfl (by rfl) rfl (by first | decide | exact Nat.le_refl _ | exact Nat.le_of_ble_eq_true rfl) ?_ | refine S.store rfl rfl (by (repeat' (first | assumption | exact AHeap.set_same _ _ _ | refine AHeap.get_fresh (by assumption) ?_ | refine AHeap.so ?_ ?_ | exact AHeap.n1 (by assumption) | exact AHeap.n2 (by assumption) | exact AHeap.ne_of (by assumption) (by assumption) | exact AHeap.n4 (by assumption) (by assumption) | exact AHeap.n5 (by assumption) | exact AHeap.n6 (by assumption) | exact AHeap.n7 (by assumption) (by assumption) | exact AHeap.n8 (by assumption) (by assumption))); first | done | fail) rfl rfl rfl (by rfl) rfl ?_)
      | refine S.skip rfl ?_
      | refine S.skip0 rfl ?_
      | refine S.seq ?_
      | refine S.region ?_
      | refine S.regionT ?_
      | refine S.tstep ?_
      | refine S.talt ?_ ?_
      | exact S.tstop
      | refine S.tdone ?_
      | refine S.condT rfl ?_
      | refine S.condF rfl ?_
      | refine RRun.skip ?_
      | refine RRun.block ?_
      | refine RRun.inBlock ?_
      | refine RRun.exit rfl ?_)
    exact S.keep [13, 12, 11, 0] rfl (hk h H)
  | succ m ih =>
    intro j h hj H
    obtain ⟨v, hp, hw⟩ := H.hp
    have hb := H.fr bx _ hbx
    have hlen : (M.wait ++ List.replicate j (⟨x, due⟩ : Fly)).length ≤ 1000000 := by simp; omega
    refine RRun.inLoop ?_
    repeat' (first
      | refine S.nilK ?_
      | (refine S.op rfl ?_; first
        | refine R.callQ (by decide) rfl (mcopied_spec x hx _) ?_
        | refine R.mv rfl ?_
        | refine R.fieldAddr rfl ?_
        | refine R.fieldAddrR rfl ?_
        | refine R.nilCheck rfl ?_
        | refine R.nilCheckR rfl ?_
        | refine R.loadR rfl rfl ?_
        | refine R.load (by decide) rfl (by (repeat' (first | assumption | exact AHeap.set_same _ _ _ | refine AHeap.get_fresh (by assumption) ?_ | refine AHeap.so ?_ ?_ | exact AHeap.n1 (by assumption) | exact AHeap.n2 (by assumption) | exact AHeap.ne_of (by assumption) (by assumption) | exact AHeap.n4 (by assumption) (by assumption) | exact AHeap.n5 (by assumption) | exact AHeap.n6 (by assumption) | exact AHeap.n7 (by assumption) (by assumption) | exact AHeap.n8 (by assumption) (by assumption))); first | done | fail) rfl ?_
        | refine S.addI rfl rfl (by omega) ?_
        | refine S.subI rfl rfl (by omega) ?_
        | refine S.addU rfl rfl ?_
        | refine S.subU rfl rfl ?_
        | refine S.addUc rfl (by decide) ?_
        | refine S.subUc rfl (by decide) ?_
        | refine S.arith rfl rfl rfl ?_
        | refine R.pickT rfl rfl ?_
        | refine R.pickF rfl rfl ?_
        | refine R.len rfl ?_
        | refine R.lenA rfl ?_
        | refine R.lenStr rfl ?_
        | refine S.convIU rfl (by omega) ?_
        | refine S.convUI rfl (by omega) ?_
        | refine R.convInt rfl ?_
        | refine R.not rfl ?_
        | refine R.eqPtrNil rfl rfl ?_
        | refine R.extract rfl rfl ?_
        | refine R.field rfl rfl ?_
        | refine R.alloc rfl (fun b hb => ?_)
        | refine R.box rfl rfl rfl (fun b hb => ?_)
        | refine R.build rfl rfl ?_
        | refine R.buildSl rfl rfl rfl (by decide) ?_
        | refine R.toStr rfl ?_
        | refine R.convStr rfl ?_
        | refine R.minmax rfl ?_
        | refine R.makeFunc rfl rfl ?_
        | (first | refine S.lss rfl rfl (fun hlt => ?_) (fun hlt => by exfalso; omega) | refine S.lss rfl rfl (fun hlt => by exfalso; omega) (fun hlt => ?_) | refine S.lss rfl rfl (fun hlt => ?_) (fun hlt => ?_))
        | (first | refine S.gtr rfl rfl (fun hlt => ?_) (fun hlt => by exfalso; omega) | refine S.gtr rfl rfl (fun hlt => by exfalso; omega) (fun hlt => ?_) | refine S.gtr rfl rfl (fun hlt => ?_) (fun hlt => ?_))
        | (first | refine S.leq rfl rfl (fun hlt => ?_) (fun hlt => by exfalso; omega) | refine S.leq rfl rfl (fun hlt => by exfalso; omega) (fun hlt => ?_) | refine S.leq rfl rfl (fun hlt => ?_) (fun hlt => ?_))
        | (first | refine S.geq rfl rfl (fun hlt => ?_) (fun hlt => by exfalso; omega) | refine S.geq rfl rfl (fun hlt => by exfalso; omega) (fun hlt => ?_) | refine S.geq rfl rfl (fun hlt => ?_) (fun hlt => ?_))
        | (first | refine S.eqInt rfl rfl (fun hlt => ?_) (fun hlt => by exfalso; omega) | refine S.eqInt rfl rfl (fun hlt => by exfalso; omega) (fun hlt => ?_) | refine S.eqInt rfl rfl (fun hlt => ?_) (fun hlt => ?_)))
      | (refine S.op0 rfl ?_; first | refine S.storeS rfl rfl rfl (by rfl) rfl (by first | decide | exact Nat.le_refl _ | exact Nat.le_of_ble_eq_true rfl) ?_ | refine S.store rfl rfl (by (repeat' (first | assumption | exact AHeap.set_same _ _ _ | refine AHeap.get_fresh (by assumption) ?_ | refine AHeap.so ?_ ?_ | exact AHeap.n1 (by assumption) | exact AHeap.n2 (by assumption) | exact AHeap.ne_of (by assumption) (by assumption) | exact AHeap.n4 (by assumption) (by assumption) | exact AHeap.n5 (by assumption) | exact AHeap.n6 (by assumption) | exact AHeap.n7 (by assumption) (by assumption) | exact AHeap.n8 (by assumption) (by assumption))); first | done | fail) rfl rfl rfl (by rfl) rfl ?_)
      | refine S.skip rfl ?_
      | refine S.skip0 rfl ?_
      | refine S.seq ?_
      | refine S.region ?_
      | refine S.regionT ?_
      | refine S.tstep ?_
      | refine S.talt ?_ ?_
      | exact S.tstop
      | refine S.tdone ?_
      | refine S.condT rfl ?_
      | refine S.condF rfl ?_
      | refine RRun.skip ?_
      | refine RRun.block ?_
      | refine RRun.inBlock ?_
      | refine RRun.exit rfl ?_)
    refine S.op rfl (S.appendFly (f := ⟨x, due⟩) rfl H hp hw rfl rfl (.sl [(⟨x, due⟩ : Fly).cells] _) hlen (fun v' h' g1 g2 g3 g4 => ?_))
    have hp' := g3.trans hp
    rcases g4 with ⟨g4, _⟩ | ⟨b, cap, sp, w1, w2, rfl, w4, w5⟩
    · simp at g4
    repeat' (first
      | refine S.nilK ?_
      | (refine S.op rfl ?_; first
        | refine R.mv rfl ?_
        | refine R.fieldAddr rfl ?_
        | refine R.fieldAddrR rfl ?_
        | refine R.nilCheck rfl ?_
        | refine R.nilCheckR rfl ?_
        | refine R.loadR rfl rfl ?_
        | refine R.load (by decide) rfl (by (repeat' (first | assumption | exact AHeap.set_same _ _ _ | refine AHeap.get_fresh (by assumption) ?_ | refine AHeap.so ?_ ?_ | exact AHeap.n1 (by assumption) | exact AHeap.n2 (by assumption) | exact AHeap.ne_of (by assumption) (by assumption) | exact AHeap.n4 (by assumption) (by assumption) | exact AHeap.n5 (by assumption) | exact AHeap.n6 (by assumption) | exact AHeap.n7 (by assumption) (by assumption) | exact AHeap.n8 (by assumption) (by assumption))); first | done | fail) rfl ?_
        | refine S.addI rfl rfl (by omega) ?_
        | refine S.subI rfl rfl (by omega) ?_
        | refine S.addU rfl rfl ?_
        | refine S.subU rfl rfl ?_
        | refine S.addUc rfl (by decide) ?_
        | refine S.subUc rfl (by decide) ?_
        | refine S.arith rfl rfl rfl ?_
        | refine R.pickT rfl rfl ?_
        | refine R.pickF rfl rfl ?_
        | refine R.len rfl ?_
        | refine R.lenA rfl ?_
        | refine R.lenStr rfl ?_
        | refine S.convIU rfl (by omega) ?_
        | refine S.convUI rfl (by omega) ?_
        | refine R.convInt rfl ?_
        | refine R.not rfl ?_
        | refine R.eqPtrNil rfl rfl ?_
        | refine R.extract rfl rfl ?_
        | refine R.field rfl rfl ?_
        | refine R.alloc rfl (fun b hb => ?_)
        | refine R.box rfl rfl rfl (fun b hb => ?_)
        | refine R.build rfl rfl ?_
        | refine R.buildSl rfl rfl rfl (by decide) ?_
        | refine R.toStr rfl ?_
        | refine R.convStr rfl ?_
        | refine R.minmax rfl ?_
        | refine R.makeFunc rfl rfl ?_
        | (first | refine S.lss rfl rfl (fun hlt => ?_) (fun hlt => by exfalso; omega) | refine S.lss rfl rfl (fun hlt => by exfalso; omega) (fun hlt => ?_) | refine S.lss rfl rfl (fun hlt => ?_) (fun hlt => ?_))
        | (first | refine S.gtr rfl rfl (fun hlt => ?_) (fun hlt => by exfalso; omega) | refine S.gtr rfl rfl (fun hlt => by exfalso; omega) (fun hlt => ?_) | refine S.gtr rfl rfl (fun hlt => ?_) (fun hlt => ?_))
        | (first | refine S.leq rfl rfl (fun hlt => ?_) (fun hlt => by exfalso; omega) | refine S.leq rfl rfl (fun hlt => by exfalso; omega) (fun hlt => ?_) | refine S.leq rfl rfl (fun hlt => ?_) (fun hlt => ?_))
        | (first | refine S.geq rfl rfl (fun hlt => ?_) (fun hlt => by exfalso; omega) | refine S.geq rfl rfl (fun hlt => by exfalso; omega) (fun hlt => ?_) | refine S.geq rfl rfl (fun hlt => ?_) (fun hlt => ?_))
        | (first | refine S.eqInt rfl rfl (fun hlt => ?_) (fun hlt => by exfalso; omega) | refine S.eqInt rfl rfl (fun hlt => by exfalso; omega) (fun hlt => ?_) | refine S.eqInt rfl rfl (fun hlt => ?_) (fun hlt => ?_)))
      | (refine S.op0 rfl ?_; first | refine S.storeS rfl rfl rfl (by rfl) rfl (by first | decide | exact Nat.le_refl _ | exact Nat.le_of_ble_eq_true rfl) ?_ | refine S.store rfl rfl (by (repeat' (first | assumption | exact AHeap.set_same _ _ _ | refine AHeap.get_fresh (by assumption) ?_ | refine AHeap.so ?_ ?_ | exact AHeap.n1 (by assumption) | exact AHeap.n2 (by assumption) | exact AHeap.ne_of (by assumption) (by assumption) | exact AHeap.n4 (by assumption) (by assumption) | exact AHeap.n5 (by assumption) | exact AHeap.n6 (by assumption) | exact AHeap.n7 (by assumption) (by assumption) | exact AHeap.n8 (by assumption) (by assumption))); first | done | fail) rfl rfl rfl (by rfl) rfl ?_)
      | refine S.skip rfl ?_
      | refine S.skip0 rfl ?_
      | refine S.seq ?_
      | refine S.region ?_
      | refine S.regionT ?_
      | refine S.tstep ?_
      | refine S.talt ?_ ?_
      | exact S.tstop
      | refine S.tdone ?_
      | refine S.condT rfl ?_
      | refine S.condF rfl ?_
      | refine RRun.skip ?_
      | refine RRun.block ?_
      | refine RRun.inBlock ?_
      | refine RRun.exit rfl ?_)
    rw [show ((j : Int) + 1) = ((j + 1 : Nat) : Int) by omega]
    refine S.keep [42, 41, 0, 5, 7, 13, 12, 11] rfl (ih (j + 1) _ (by omega) ?_)
    have hbm : bm ≠ p := fun e => by subst e; rw [H.hm] at hp; cases hp
    refine ⟨fun y o e => ?_, H.p0, H.m0, by rw [AHeap.set_other _ _ hbm]; exact g2, H.nd, _, AHeap.set_same _ _ _, ?_⟩
    · rw [AHeap.set_other]
      · exact g1 y o e
      · intro e'; subst e'; rw [H.p0] at e; cases e
    · have hrep : M.wait ++ List.replicate (j + 1) (⟨x, due⟩ : Fly) = M.wait ++ List.replicate j ⟨x, due⟩ ++ [⟨x, due⟩] := by rw [List.replicate_succ', List.append_assoc]
      show WaitAt h₀ p (M.wait ++ List.replicate (j + 1) (⟨x, due⟩ : Fly)) _ _
      rw [hrep]
      exact .inr ⟨b, cap, sp, w1, w2, rfl, by rw [AHeap.set_other _ _ w2]; exact w4, w5⟩

end Go.Proofs.Ytnmgamcmjjngcaa
