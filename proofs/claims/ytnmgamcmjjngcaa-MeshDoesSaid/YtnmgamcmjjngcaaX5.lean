import Derived.Test.YtnmgamcmjjngcaaX4
set_option linter.unusedVariables false
set_option linter.unusedSimpArgs false
namespace Go.Proofs.Ytnmgamcmjjngcaa
open Go.Av

/-! ### The reference's Next -/

def RMesh.asM (Z : RMesh) : Mesh := ⟨Z.fates, Z.sent, Z.now, [], Z.wait⟩
def RMesh.rest (Z : RMesh) : RMesh := { Z with wait := Z.asM.rest.wait }

def Ext (h h' : AHeap) : Prop := ∀ y o, h y = some o → h' y = some o
theorem Ext.refl (h : AHeap) : Ext h h := fun y o e => e
theorem Ext.alloc {h h' : AHeap} (he : Ext h h') {b : Nat} (o : ABlk) (hb : h' b = none) : Ext h (h'.set b o) := fun y o e => AHeap.get_fresh hb (he y o e)
theorem RAt.ext {Z : RMesh} {q : Nat} {c : Cap} {h h' : AHeap} (H : RAt Z q c h) (he : Ext h h') : RAt Z q c h' :=
  ⟨he _ _ H.hq, by rcases H.held with g | ⟨b, u, s, g1, g2⟩; exact .inl g; exact .inr ⟨b, u, s, g1, he _ _ g2⟩⟩
theorem Ext.stp {h h' : AHeap} (he : Ext h h') (q : Nat) (c : Cap) : Stp q c h c h' := ⟨fun x o e _ _ => he x o e, fun b u s e => .inr ⟨u, s, e⟩⟩

def r25l0 : RCode :=
  (.seq (.region [
    ⟨(some 14), none, .act, .bin .lss (.tmp 13) (.tmp 12)⟩])
  (.seq (.cond (.tmp 14)
   .skip
   (.exit 0))
  (.seq (.block 1
   (.seq (.region [
     ⟨(some 15), none, .act, .mv (.tmp 13)⟩,
     ⟨(some 16), none, .act, .indexAddr 15 (.tmp 11) (.tmp 13)⟩,
     ⟨(some 17), none, .act, .load true 15 (.tmp 16)⟩,
     ⟨(some 6), none, .act, .alloc [(.int .i64 0), (.int .u64 0), (.int .u64 0), (.int .u64 0), (.int .u64 0), (.int .u64 0), (.int .u64 0), (.int .u64 0), (.bool false), (.slice none 0 0), (.int .u64 0), (.int .u64 0), (.slice none 0 0), (.slice none 0 0), (.int .i64 0)]⟩,
     ⟨(some 5), none, .act, .mv (.tmp 15)⟩,
     ⟨none, none, .act, .store 15 (.tmp 6) (.tmp 17)⟩])
   (.seq (.region [
     ⟨(some 18), none, .pure, .fieldAddr 14 (.tmp 6)⟩,
     ⟨(some 19), none, .read, .load false 1 (.tmp 18)⟩,
     ⟨(some 20), none, .pure, .mv (.tmp 0)⟩,
     ⟨(some 21), none, .pure, .nilCheck (.tmp 20)⟩,
     ⟨(some 22), none, .pure, .fieldAddr 2 (.tmp 21)⟩,
     ⟨(some 23), none, .read, .load false 1 (.tmp 22)⟩,
     ⟨(some 24), none, .pure, .bin .leq (.tmp 19) (.tmp 23)⟩,
     ⟨(some 25), none, .pure, .mv (.tmp 24)⟩,
     ⟨(some 26), (some (25, true)), .pure, .mv (.tmp 4)⟩,
     ⟨(some 27), (some (25, true)), .pure, .bin .lss (.tmp 26) (.const (.int .i64 0))⟩,
     ⟨(some 28), (some (25, true)), .pure, .mv (.tmp 27)⟩,
     ⟨(some 29), (some (28, false)), .pure, .fieldAddr 14 (.tmp 6)⟩,
     ⟨(some 30), (some (28, false)), .read, .load false 1 (.tmp 29)⟩,
     ⟨(some 31), (some (28, false)), .pure, .mv (.tmp 0)⟩,
     ⟨(some 32), (some (28, false)), .pure, .nilCheck (.tmp 31)⟩,
     ⟨(some 33), (some (28, false)), .pure, .fieldAddr 4 (.tmp 32)⟩,
     ⟨(some 34), (some (28, false)), .read, .load false 1 (.tmp 33)⟩,
     ⟨(some 35), (some (28, false)), .pure, .mv (.tmp 4)⟩,
     ⟨(some 36), (some (28, false)), .pure, .indexAddr 15 (.tmp 34) (.tmp 35)⟩,
     ⟨(some 37), (some (28, false)), .pure, .fieldAddr 14 (.tmp 36)⟩,
     ⟨(some 38), (some (28, false)), .read, .load false 1 (.tmp 37)⟩,
     ⟨(some 39), (some (28, false)), .pure, .bin .lss (.tmp 30) (.tmp 38)⟩,
     ⟨(some 40), (some (25, true)), .pure, .pick (.tmp 28) (.const (.bool true)) (.tmp 39)⟩,
     ⟨(some 41), none, .pure, .pick (.tmp 25) (.tmp 40) (.const (.bool false))⟩])
   (.cond (.tmp 41)
    (.region [
      ⟨(some 42), none, .act, .mv (.tmp 5)⟩,
      ⟨(some 4), none, .act, .mv (.tmp 42)⟩])
    .skip))))
  (.region [
    ⟨(some 43), none, .act, .bin .add (.tmp 13) (.const (.int .i64 1))⟩,
    ⟨(some 13), none, .act, .mv (.tmp 43)⟩]))))
/-- (*plenum/plenumref09.Mesh).Next -/
def r25 : RCode :=
  (.seq (.region [
    ⟨(some 2), none, .act, .alloc [(.int .i64 0), (.int .u64 0), (.int .u64 0), (.int .u64 0), (.int .u64 0), (.int .u64 0), (.int .u64 0), (.int .u64 0), (.bool false), (.slice none 0 0), (.int .u64 0), (.int .u64 0), (.slice none 0 0), (.slice none 0 0)]⟩,
    ⟨(some 3), none, .act, .mv (.const (.bool false))⟩])
  (.seq (.region [
    ⟨(some 4), none, .act, .mv (.const (.int .i64 (-1)))⟩])
  (.seq (.seq (.region [
    ⟨(some 8), none, .act, .mv (.tmp 0)⟩,
    ⟨(some 9), none, .act, .nilCheck (.tmp 8)⟩,
    ⟨(some 10), none, .act, .fieldAddr 4 (.tmp 9)⟩,
    ⟨(some 11), none, .act, .load false 1 (.tmp 10)⟩,
    ⟨(some 12), none, .act, .len (.tmp 11)⟩,
    ⟨(some 13), none, .act, .mv (.const (.int .i64 0))⟩])
  (.block 0
   (.loop r25l0)))
  (.seq (.seq (.region [
    ⟨(some 44), none, .act, .mv (.tmp 4)⟩,
    ⟨(some 45), none, .act, .bin .lss (.tmp 44) (.const (.int .i64 0))⟩])
  (.cond (.tmp 45)
   (.seq (.region [
     ⟨(some 46), none, .act, .build [(.int .i64 0), (.int .u64 0), (.int .u64 0), (.int .u64 0), (.int .u64 0), (.int .u64 0), (.int .u64 0), (.int .u64 0), (.bool false), (.slice none 0 0), (.int .u64 0), (.int .u64 0), (.slice none 0 0), (.slice none 0 0)] []⟩,
     ⟨none, none, .act, .store 14 (.tmp 2) (.tmp 46)⟩,
     ⟨(some 3), none, .act, .mv (.const (.bool false))⟩])
   .ret)
   .skip))
  (.seq (.region [
    ⟨(some 47), none, .act, .mv (.tmp 0)⟩,
    ⟨(some 48), none, .act, .nilCheck (.tmp 47)⟩,
    ⟨(some 49), none, .act, .fieldAddr 4 (.tmp 48)⟩,
    ⟨(some 50), none, .act, .load false 1 (.tmp 49)⟩,
    ⟨(some 51), none, .act, .mv (.tmp 4)⟩,
    ⟨(some 52), none, .act, .indexAddr 15 (.tmp 50) (.tmp 51)⟩,
    ⟨(some 53), none, .act, .fieldAddr 0 (.tmp 52)⟩,
    ⟨(some 54), none, .act, .load true 14 (.tmp 53)⟩,
    ⟨(some 7), none, .act, .alloc [(.int .i64 0), (.int .u64 0), (.int .u64 0), (.int .u64 0), (.int .u64 0), (.int .u64 0), (.int .u64 0), (.int .u64 0), (.bool false), (.slice none 0 0), (.int .u64 0), (.int .u64 0), (.slice none 0 0), (.slice none 0 0)]⟩,
    ⟨none, none, .act, .store 14 (.tmp 7) (.tmp 54)⟩])
  (.seq (.region [
    ⟨(some 55), none, .pure, .mv (.tmp 0)⟩,
    ⟨(some 56), none, .pure, .mv (.tmp 0)⟩,
    ⟨(some 57), none, .pure, .nilCheck (.tmp 56)⟩,
    ⟨(some 58), none, .pure, .fieldAddr 4 (.tmp 57)⟩,
    ⟨(some 59), none, .read, .load false 1 (.tmp 58)⟩,
    ⟨(some 60), none, .pure, .mv (.tmp 4)⟩,
    ⟨(some 61), none, .pure, .mv (.tmp 4)⟩,
    ⟨(some 62), none, .pure, .sliceSl 15 (.tmp 59) none (some (.tmp 60)) (some (.tmp 61))⟩,
    ⟨(some 63), none, .pure, .mv (.tmp 0)⟩,
    ⟨(some 64), none, .pure, .nilCheck (.tmp 63)⟩,
    ⟨(some 65), none, .pure, .fieldAddr 4 (.tmp 64)⟩,
    ⟨(some 66), none, .read, .load false 1 (.tmp 65)⟩,
    ⟨(some 67), none, .pure, .mv (.tmp 4)⟩,
    ⟨(some 68), none, .pure, .bin .add (.tmp 67) (.const (.int .i64 1))⟩,
    ⟨(some 69), none, .pure, .sliceSl 15 (.tmp 66) (some (.tmp 68)) none none⟩,
    ⟨(some 70), none, .act, .append 15 168 [(.int .i64 0), (.int .u64 0), (.int .u64 0), (.int .u64 0), (.int .u64 0), (.int .u64 0), (.int .u64 0), (.int .u64 0), (.bool false), (.slice none 0 0), (.int .u64 0), (.int .u64 0), (.slice none 0 0), (.slice none 0 0), (.int .i64 0)] (.tmp 62) (.tmp 69)⟩,
    ⟨(some 71), none, .pure, .nilCheck (.tmp 55)⟩,
    ⟨(some 72), none, .pure, .fieldAddr 4 (.tmp 71)⟩,
    ⟨none, none, .act, .store 1 (.tmp 72) (.tmp 70)⟩])
  (.seq (.region [
    ⟨(some 73), none, .act, .load true 14 (.tmp 7)⟩,
    ⟨none, none, .act, .store 14 (.tmp 2) (.tmp 73)⟩,
    ⟨(some 3), none, .act, .mv (.const (.bool true))⟩])
  .ret)))))))
theorem res25 : ∃ c, Try.f25.body = some c ∧ resCode Try.prog 74 c = some r25 := ⟨_, rfl, by kernel_rfl⟩
theorem rr25 : resRes Try.prog Try.f25.results.toList = some [.cell 2 true 14, .tmp 3] := by kernel_rfl
theorem rnext_loop {Z : RMesh} {q : Nat} {c : Cap} {h0 : AHeap} (H : RAt Z q c h0) (hl : Z.wait.length ≤ 1000000) (b2 : AV) (k : List RT) (Q : AV → AHeap → Prop)
    (hk : ∀ h, Ext h0 h → RRun Try.prog Try.f25 74 k (Env.get [(4, i64 (pickAt Z.now Z.wait Z.wait.length)), (0, ptr q), (2, b2)]) h Q) (m : Nat) :
    ∀ (i : Nat) (h : AHeap), i + m = Z.wait.length → Ext h0 h → RRun Try.prog Try.f25 74 (.inLoop r25l0 :: .inBlock 0 :: k) (Env.get [(13, i64 i), (12, i64 Z.wait.length), (11, flys Z.wait c), (4, i64 (pickAt Z.now Z.wait i)), (0, ptr q), (2, b2)]) h Q := by
  have hlen0 : (Z.wait.map Fly.cells).length = Z.wait.length := by simp
  induction m with
  | zero =>
    intro i h hi he
    refine RRun.inLoop ?_
    repeat' (first
      | refine S.nilK ?_
      | (refine S.op rfl ?_; first
        | refine R.mv rfl ?_
        | refine R.fieldAddr rfl ?_
        | refine R.fieldAddrR rfl ?_
        | refine R.nilCheck rfl ?_
        | refine R.nilCheckR rfl ?_
        | refine R.loadR rfl rfl ?_
        | refine R.load (by decide) rfl (by (repeat' (first | assumption | exact AHeap.set_same _ _ _ | refine AHeap.get_fresh (by assumption) ?_ | refine AHeap.so ?_ ?_ | exact AHeap.n1 (by assumption) | exact AHeap.n2 (by assumption) | exact AHeap.ne_of (by assumption) (by assumption) | exact AHeap.n4 (by assumption) (by assumption) | exact AHeap.n5 (by assumption) | exact AHeap.n6 (by assumption) | exact AHeap.n7 (by assumption) (by assumption) | exact AHeap.n8 (by assumption) (by assumption))); first | done | fail) rfl ?_
        | refine S.addI rfl rfl (by omega) ?_
        | refine S.subI rfl rfl (by omega) ?_
        | refine S.addU rfl rfl ?_
        | refine S.subU rfl rfl ?_
        | refine S.addUc rfl (by decide) ?_
        | refine S.subUc rfl (by decide) ?_
        | refine S.arith rfl rfl rfl ?_
        | refine R.pickT rfl rfl ?_
        | refine R.pickF rfl rfl ?_
        | refine R.len rfl ?_
        | refine R.lenA rfl ?_
        | refine R.lenStr rfl ?_
        | refine S.convIU rfl (by omega) ?_
        | refine S.convUI rfl (by omega) ?_
        | refine R.convInt rfl ?_
        | refine R.not rfl ?_
        | refine R.eqPtrNil rfl rfl ?_
        | refine R.extract rfl rfl ?_
        | refine R.field rfl rfl ?_
        | refine R.alloc rfl (fun b hb => ?_)
        | refine R.box rfl rfl rfl (fun b hb => ?_)
        | refine R.build rfl rfl ?_
        | refine R.buildSl rfl rfl rfl (by decide) ?_
        | refine R.toStr rfl ?_
        | refine R.convStr rfl ?_
        | refine R.minmax rfl ?_
        | refine R.makeFunc rfl rfl ?_
        | (first | refine S.lss rfl rfl (fun hlt => ?_) (fun hlt => by exfalso; omega) | refine S.lss rfl rfl (fun hlt => by exfalso; omega) (fun hlt => ?_) | refine S.lss rfl rfl (fun hlt => ?_) (fun hlt => ?_))
        | (first | refine S.gtr rfl rfl (fun hlt => ?_) (fun hlt => by exfalso; omega) | refine S.gtr rfl rfl (fun hlt => by exfalso; omega) (fun hlt => ?_) | refine S.gtr rfl rfl (fun hlt => ?_) (fun hlt => ?_))
        | (first | refine S.leq rfl rfl (fun hlt => ?_) (fun hlt => by exfalso; omega) | refine S.leq rfl rfl (fun hlt => by exfalso; omega) (fun hlt => ?_) | refine S.leq rfl rfl (fun hlt => ?_) (fun hlt => ?_))
        | (first | refine S.geq rfl rfl (fun hlt => ?_) (fun hlt => by exfalso; omega) | refine S.geq rfl rfl (fun hlt => by exfalso; omega) (fun hlt => ?_) | refine S.geq rfl rfl (fun hlt => ?_) (fun hlt => ?_))
        | (first | refine S.eqInt rfl rfl (fun hlt => ?_) (fun hlt => by exfalso; omega) | refine S.eqInt rfl rfl (fun hlt => by exfalso; omega) (fun hlt => ?_) | refine S.eqInt rfl rfl (fun hlt => ?_) (fun hlt => ?_)))
      | (refine S.op0 rfl ?_; first | refine S.storeS rfl rfl rfl (by rfl) rfl (by first | decide | exact Nat.le_refl _ | exact Nat.le_of_ble_eq_true rfl) ?_ | refine S.store rfl rfl (by (repeat' (first | assumption | exact AHeap.set_same _ _ _ | refine AHeap.get_fresh (by assumption) ?_ | refine AHeap.so ?_ ?_ | exact AHeap.n1 (by assumption) | exact AHeap.n2 (by assumption) | exact AHeap.ne_of (by assumption) (by assumption) | exact AHeap.n4 (by assumption) (by assumption) | exact AHeap.n5 (by assumption) | exact AHeap.n6 (by assumption) | exact AHeap.n7 (by assumption) (by assumption) | exact AHeap.n8 (by assumption) (by assumption))); first | done | fail) rfl rfl rfl (by rfl) rfl ?_)
      | refine S.skip rfl ?_
      | refine S.skip0 rfl ?_
      | refine S.seq ?_
      | refine S.region ?_
      | refine S.regionT ?_
      | refine S.tstep ?_
      | refine S.talt ?_ ?_
      | exact S.tstop
      | refine S.tdone ?_
      | refine S.condT rfl ?_
      | refine S.condF rfl ?_
      | refine RRun.skip ?_
      | refine RRun.block ?_
      | refine RRun.inBlock ?_
      | refine RRun.exit rfl ?_)
    obtain rfl : i = Z.wait.length := by omega
    exact S.keep [4, 0, 2] rfl (hk h he)
  | succ m ih =>
    intro i h hi he
    have hpl := pickAt_lt Z.now Z.wait i
    have hie : i < Z.wait.length := by omega
    have hgi : (Z.wait.map Fly.cells)[((i : Nat) : Int).toNat]? = some Z.wait[i].cells := by simp [hie]
    have hd : dueAt Z.wait i = Z.wait[i].due := by simp [dueAt, hie]
    have hih := fun h he => ih (i + 1) h (by omega) he
    have hs : pickAt Z.now Z.wait (i + 1) = if dueAt Z.wait i ≤ Z.now ∧ (pickAt Z.now Z.wait i < 0 ∨ dueAt Z.wait i < dueAt Z.wait (pickAt Z.now Z.wait i)) then (i : Int) else pickAt Z.now Z.wait i := rfl
    rw [hs, hd] at hih
    rw [show ((i + 1 : Nat) : Int) = (i : Int) + 1 by omega] at hih
    generalize Z.wait[i] = f at hgi hd hih
    have hq := (H.ext he).hq
    by_cases hneg : pickAt Z.now Z.wait i < 0
    · generalize pickAt Z.now Z.wait i = at' at hpl hih hneg
      refine RRun.inLoop ?_
      repeat' (first
        | refine S.nilK ?_
        | (refine S.op rfl ?_; first
          | refine R.indexAddr rfl rfl (by omega) hgi ?_
          | refine R.mv rfl ?_
          | refine R.fieldAddr rfl ?_
          | refine R.fieldAddrR rfl ?_
          | refine R.nilCheck rfl ?_
          | refine R.nilCheckR rfl ?_
          | refine R.loadR rfl rfl ?_
          | refine R.load (by decide) rfl (by (repeat' (first | assumption | exact AHeap.set_same _ _ _ | refine AHeap.get_fresh (by assumption) ?_ | refine AHeap.so ?_ ?_ | exact AHeap.n1 (by assumption) | exact AHeap.n2 (by assumption) | exact AHeap.ne_of (by assumption) (by assumption) | exact AHeap.n4 (by assumption) (by assumption) | exact AHeap.n5 (by assumption) | exact AHeap.n6 (by assumption) | exact AHeap.n7 (by assumption) (by assumption) | exact AHeap.n8 (by assumption) (by assumption))); first | done | fail) rfl ?_
          | refine S.addI rfl rfl (by omega) ?_
          | refine S.subI rfl rfl (by omega) ?_
          | refine S.addU rfl rfl ?_
          | refine S.subU rfl rfl ?_
          | refine S.addUc rfl (by decide) ?_
          | refine S.subUc rfl (by decide) ?_
          | refine S.arith rfl rfl rfl ?_
          | refine R.pickT rfl rfl ?_
          | refine R.pickF rfl rfl ?_
          | refine R.len rfl ?_
          | refine R.lenA rfl ?_
          | refine R.lenStr rfl ?_
          | refine S.convIU rfl (by omega) ?_
          | refine S.convUI rfl (by omega) ?_
          | refine R.convInt rfl ?_
          | refine R.not rfl ?_
          | refine R.eqPtrNil rfl rfl ?_
          | refine R.extract rfl rfl ?_
          | refine R.field rfl rfl ?_
          | refine R.alloc rfl (fun b hb => ?_)
          | refine R.box rfl rfl rfl (fun b hb => ?_)
          | refine R.build rfl rfl ?_
          | refine R.buildSl rfl rfl rfl (by decide) ?_
          | refine R.toStr rfl ?_
          | refine R.convStr rfl ?_
          | refine R.minmax rfl ?_
          | refine R.makeFunc rfl rfl ?_
          | (first | refine S.lss rfl rfl (fun hlt => ?_) (fun hlt => by exfalso; omega) | refine S.lss rfl rfl (fun hlt => by exfalso; omega) (fun hlt => ?_) | refine S.lss rfl rfl (fun hlt => ?_) (fun hlt => ?_))
          | (first | refine S.gtr rfl rfl (fun hlt => ?_) (fun hlt => by exfalso; omega) | refine S.gtr rfl rfl (fun hlt => by exfalso; omega) (fun hlt => ?_) | refine S.gtr rfl rfl (fun hlt => ?_) (fun hlt => ?_))
          | (first | refine S.leq rfl rfl (fun hlt => ?_) (fun hlt => by exfalso; omega) | refine S.leq rfl rfl (fun hlt => by exfalso; omega) (fun hlt => ?_) | refine S.leq rfl rfl (fun hlt => ?_) (fun hlt => ?_))
          | (first | refine S.geq rfl rfl (fun hlt => ?_) (fun hlt => by exfalso; omega) | refine S.geq rfl rfl (fun hlt => by exfalso; omega) (fun hlt => ?_) | refine S.geq rfl rfl (fun hlt => ?_) (fun hlt => ?_))
          | (first | refine S.eqInt rfl rfl (fun hlt => ?_) (fun hlt => by exfalso; omega) | refine S.eqInt rfl rfl (fun hlt => by exfalso; omega) (fun hlt => ?_) | refine S.eqInt rfl rfl (fun hlt => ?_) (fun hlt => ?_)))
        | (refine S.op0 rfl ?_; first | refine S.storeS rfl rfl rfl (by rfl) rfl (by first | decide | exact Nat.le_refl _ | exact Nat.le_of_ble_eq_true rfl) ?_ | refine S.store rfl rfl (by (repeat' (first | assumption | exact AHeap.set_same _ _ _ | refine AHeap.get_fresh (by assumption) ?_ | refine AHeap.so ?_ ?_ | exact AHeap.n1 (by assumption) | exact AHeap.n2 (by assumption) | exact AHeap.ne_of (by assumption) (by assumption) | exact AHeap.n4 (by assumption) (by assumption) | exact AHeap.n5 (by assumption) | exact AHeap.n6 (by assumption) | exact AHeap.n7 (by assumption) (by assumption) | exact AHeap.n8 (by assumption) (by assumption))); first | done | fail) rfl rfl rfl (by rfl) rfl ?_)
        | refine S.skip rfl ?_
        | refine S.skip0 rfl ?_
        | refine S.seq ?_
        | refine S.region ?_
        | refine S.regionT ?_
        | refine S.tstep ?_
        | refine S.talt ?_ ?_
        | exact S.tstop
        | refine S.tdone ?_
        | refine S.condT rfl ?_
        | refine S.condF rfl ?_
        | refine RRun.skip ?_
        | refine RRun.block ?_
        | refine RRun.inBlock ?_
        | refine RRun.exit rfl ?_)
      · have := hih _ (he.alloc (.box f.cells) (by assumption))
        rw [if_pos ⟨by omega, .inl hneg⟩] at this
        exact S.keep [13, 12, 11, 4, 0, 2] rfl this
      · have := hih _ (he.alloc (.box f.cells) (by assumption))
        rw [if_neg (fun e => by omega)] at this
        exact S.keep [13, 12, 11, 4, 0, 2] rfl this
    · have hkl : (pickAt Z.now Z.wait i).toNat < Z.wait.length := by omega
      have hgk : (Z.wait.map Fly.cells)[(pickAt Z.now Z.wait i).toNat]? = some Z.wait[(pickAt Z.now Z.wait i).toNat].cells := by simp [hkl]
      have hdk : dueAt Z.wait (pickAt Z.now Z.wait i) = Z.wait[(pickAt Z.now Z.wait i).toNat].due := by simp [dueAt, hkl]
      rw [hdk] at hih
      generalize Z.wait[(pickAt Z.now Z.wait i).toNat] = g at hgk hdk hih
      generalize pickAt Z.now Z.wait i = at' at hpl hih hneg hgk
      refine RRun.inLoop ?_
      repeat' (first
        | refine S.nilK ?_
        | (refine S.op rfl ?_; first
          | refine R.indexAddr rfl rfl (by omega) hgi ?_
          | refine R.indexAddr rfl rfl (by omega) hgk ?_
          | refine R.mv rfl ?_
          | refine R.fieldAddr rfl ?_
          | refine R.fieldAddrR rfl ?_
          | refine R.nilCheck rfl ?_
          | refine R.nilCheckR rfl ?_
          | refine R.loadR rfl rfl ?_
          | refine R.load (by decide) rfl (by (repeat' (first | assumption | exact AHeap.set_same _ _ _ | refine AHeap.get_fresh (by assumption) ?_ | refine AHeap.so ?_ ?_ | exact AHeap.n1 (by assumption) | exact AHeap.n2 (by assumption) | exact AHeap.ne_of (by assumption) (by assumption) | exact AHeap.n4 (by assumption) (by assumption) | exact AHeap.n5 (by assumption) | exact AHeap.n6 (by assumption) | exact AHeap.n7 (by assumption) (by assumption) | exact AHeap.n8 (by assumption) (by assumption))); first | done | fail) rfl ?_
          | refine S.addI rfl rfl (by omega) ?_
          | refine S.subI rfl rfl (by omega) ?_
          | refine S.addU rfl rfl ?_
          | refine S.subU rfl rfl ?_
          | refine S.addUc rfl (by decide) ?_
          | refine S.subUc rfl (by decide) ?_
          | refine S.arith rfl rfl rfl ?_
          | refine R.pickT rfl rfl ?_
          | refine R.pickF rfl rfl ?_
          | refine R.len rfl ?_
          | refine R.lenA rfl ?_
          | refine R.lenStr rfl ?_
          | refine S.convIU rfl (by omega) ?_
          | refine S.convUI rfl (by omega) ?_
          | refine R.convInt rfl ?_
          | refine R.not rfl ?_
          | refine R.eqPtrNil rfl rfl ?_
          | refine R.extract rfl rfl ?_
          | refine R.field rfl rfl ?_
          | refine R.alloc rfl (fun b hb => ?_)
          | refine R.box rfl rfl rfl (fun b hb => ?_)
          | refine R.build rfl rfl ?_
          | refine R.buildSl rfl rfl rfl (by decide) ?_
          | refine R.toStr rfl ?_
          | refine R.convStr rfl ?_
          | refine R.minmax rfl ?_
          | refine R.makeFunc rfl rfl ?_
          | (first | refine S.lss rfl rfl (fun hlt => ?_) (fun hlt => by exfalso; omega) | refine S.lss rfl rfl (fun hlt => by exfalso; omega) (fun hlt => ?_) | refine S.lss rfl rfl (fun hlt => ?_) (fun hlt => ?_))
          | (first | refine S.gtr rfl rfl (fun hlt => ?_) (fun hlt => by exfalso; omega) | refine S.gtr rfl rfl (fun hlt => by exfalso; omega) (fun hlt => ?_) | refine S.gtr rfl rfl (fun hlt => ?_) (fun hlt => ?_))
          | (first | refine S.leq rfl rfl (fun hlt => ?_) (fun hlt => by exfalso; omega) | refine S.leq rfl rfl (fun hlt => by exfalso; omega) (fun hlt => ?_) | refine S.leq rfl rfl (fun hlt => ?_) (fun hlt => ?_))
          | (first | refine S.geq rfl rfl (fun hlt => ?_) (fun hlt => by exfalso; omega) | refine S.geq rfl rfl (fun hlt => by exfalso; omega) (fun hlt => ?_) | refine S.geq rfl rfl (fun hlt => ?_) (fun hlt => ?_))
          | (first | refine S.eqInt rfl rfl (fun hlt => ?_) (fun hlt => by exfalso; omega) | refine S.eqInt rfl rfl (fun hlt => by exfalso; omega) (fun hlt => ?_) | refine S.eqInt rfl rfl (fun hlt => ?_) (fun hlt => ?_)))
        | (refine S.op0 rfl ?_; first | refine S.storeS rfl rfl rfl (by rfl) rfl (by first | decide | exact Nat.le_refl _ | exact Nat.le_of_ble_eq_true rfl) ?_ | refine S.store rfl rfl (by (repeat' (first | assumption | exact AHeap.set_same _ _ _ | refine AHeap.get_fresh (by assumption) ?_ | refine AHeap.so ?_ ?_ | exact AHeap.n1 (by assumption) | exact AHeap.n2 (by assumption) | exact AHeap.ne_of (by assumption) (by assumption) | exact AHeap.n4 (by assumption) (by assumption) | exact AHeap.n5 (by assumption) | exact AHeap.n6 (by assumption) | exact AHeap.n7 (by assumption) (by assumption) | exact AHeap.n8 (by assumption) (by assumption))); first | done | fail) rfl rfl rfl (by rfl) rfl ?_)
        | refine S.skip rfl ?_
        | refine S.skip0 rfl ?_
        | refine S.seq ?_
        | refine S.region ?_
        | refine S.regionT ?_
        | refine S.tstep ?_
        | refine S.talt ?_ ?_
        | exact S.tstop
        | refine S.tdone ?_
        | refine S.condT rfl ?_
        | refine S.condF rfl ?_
        | refine RRun.skip ?_
        | refine RRun.block ?_
        | refine RRun.inBlock ?_
        | refine RRun.exit rfl ?_)
      all_goals have := hih _ (he.alloc (.box f.cells) (by assumption))
      all_goals first
        | (rw [if_pos ⟨by omega, .inr (by omega)⟩] at this; exact S.keep [13, 12, 11, 4, 0, 2] rfl this)
        | (rw [if_neg (fun e => by omega)] at this; exact S.keep [13, 12, 11, 4, 0, 2] rfl this)

end Go.Proofs.Ytnmgamcmjjngcaa
