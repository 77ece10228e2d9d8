import Derived.Test.YtnmgamcmjjngcaaM2
import Derived.Test.YtnmgamcmjjngcaaAvT
set_option linter.unusedVariables false
set_option linter.unusedSimpArgs false
namespace Go.Proofs.Ytnmgamcmjjngcaa
open Go.Av
open Go.Sort (swp PermIn SortedIn Below SWO)

theorem S.ldG {P : Program} {c : Cls} {E : AEnv} {H : AHeap} {K : AV → AHeap → Prop} {b : Nat} {sp : List AV} {x : Operand} {d : Array SE} {n : Nat} (hc : c ≠ .pure) (hx : aev E x = some (ptrAt b n)) (hb : H b = some (.box (d.toList.map enc ++ sp))) (hn : n < d.size) (hk : K (enc d[n]!) H) : ROpS P c (.load false 1 x) E H K := by
  have e : HL H b d.toList sp = H := AHeap.set_eq H hb
  have := S.ldE (P := P) (c := c) (E := E) (h := H) (K := K) (b := b) (sp := sp) (x := x) (d := d) (n := n) hc hx hn
  rw [e] at this
  exact this hk


/-! ### order2, median, choosePivot -/
/-- slices.order2Ordered[uint64] -/
def r124 : RCode :=
  (.seq (.region [
    ⟨(some 8), none, .act, .mv (.const (.int .i64 0))⟩,
    ⟨(some 9), none, .act, .mv (.const (.int .i64 0))⟩])
  (.seq (.seq (.region [
    ⟨(some 10), none, .pure, .mv (.tmp 0)⟩,
    ⟨(some 11), none, .pure, .mv (.tmp 2)⟩,
    ⟨(some 12), none, .pure, .indexAddr 1 (.tmp 10) (.tmp 11)⟩,
    ⟨(some 13), none, .read, .load false 1 (.tmp 12)⟩,
    ⟨(some 14), none, .pure, .mv (.tmp 0)⟩,
    ⟨(some 15), none, .pure, .mv (.tmp 1)⟩,
    ⟨(some 16), none, .pure, .indexAddr 1 (.tmp 14) (.tmp 15)⟩,
    ⟨(some 17), none, .read, .load false 1 (.tmp 16)⟩,
    ⟨(some 18), none, .act, .call 113 [(.tmp 13), (.tmp 17)]⟩])
  (.cond (.tmp 18)
   (.seq (.region [
     ⟨(some 19), none, .act, .mv (.tmp 3)⟩,
     ⟨(some 20), none, .act, .nilCheck (.tmp 19)⟩,
     ⟨(some 21), none, .act, .load false 1 (.tmp 20)⟩,
     ⟨(some 22), none, .act, .bin .add (.tmp 21) (.const (.int .i64 1))⟩,
     ⟨(some 23), none, .act, .nilCheck (.tmp 19)⟩,
     ⟨none, none, .act, .store 1 (.tmp 23) (.tmp 22)⟩])
   (.seq (.region [
     ⟨(some 24), none, .act, .mv (.tmp 2)⟩,
     ⟨(some 25), none, .act, .mv (.tmp 1)⟩,
     ⟨(some 8), none, .act, .mv (.tmp 24)⟩,
     ⟨(some 9), none, .act, .mv (.tmp 25)⟩])
   .ret))
   .skip))
  (.seq (.region [
    ⟨(some 26), none, .act, .mv (.tmp 1)⟩,
    ⟨(some 27), none, .act, .mv (.tmp 2)⟩,
    ⟨(some 8), none, .act, .mv (.tmp 26)⟩,
    ⟨(some 9), none, .act, .mv (.tmp 27)⟩])
  .ret)))
theorem res124 : ∃ c, Try.f124.body = some c ∧ resCode Try.prog 28 c = some r124 := ⟨_, rfl, by kernel_rfl⟩
theorem rr124 : resRes Try.prog Try.f124.results.toList = some [.tmp 8, .tmp 9] := by kernel_rfl

theorem order2_spec (b cap n u v p : Nat) (sp : List AV) (hn : n ≤ 1000000) (hu : u < n) (hv : v < n) (d : Array SE) (hd : d.size = n) (H : AHeap) (hb : H b = some (.box (d.toList.map enc ++ sp))) (kk : Nat) (hk : kk ≤ 100) (hp : H p = some (.box [i64 kk])) :
    ACalls Try.prog 124 [slAt b 0 n cap, i64 u, i64 v, ptr p] H (fun x h' => ∃ (u' v' kk' : Nat), x = .tu [i64 u', i64 v'] ∧ h' = H.set p (.box [i64 kk']) ∧ kk' ≤ kk + 1 ∧ ((u' = u ∧ v' = v) ∨ (u' = v ∧ v' = u))) := by
  obtain ⟨c, hc1, hc2⟩ := res124
  refine ACalls.enter Try.func124 hc1 Try.ntmps124 hc2 (Nat.le_of_ble_eq_true rfl) rfl ?_
  cases hl : ltE d[v]! d[u]! with
  | true =>
    repeat' (first | refine S.nilK ?_ | (refine S.op rfl ?_; first | refine S.addNN (n := 1) rfl rfl (by omega) ?_ | refine S.addNN rfl rfl (by omega) ?_ | refine S.subNN (n := 1) rfl rfl (by omega) (by omega) ?_ | refine S.subNN rfl rfl (by omega) (by omega) ?_ | refine S.ix rfl rfl (by omega) ?_ | refine S.ldG (by decide) rfl hb (by omega) ?_ | refine callS rfl rfl (less_is hl _) ?_ | refine R.mv rfl ?_ | refine R.nilCheck rfl ?_ | refine R.nilCheckR rfl ?_ | refine R.loadR rfl rfl ?_ | refine R.load (by decide) rfl (by (repeat' (first | assumption | exact AHeap.set_same _ _ _ | refine AHeap.get_fresh ‹_› ?_ | refine AHeap.so ?_ ?_ | exact AHeap.n1 ‹_› | exact AHeap.n2 ‹_› | exact AHeap.ne_of ‹_› ‹_› | exact AHeap.n4 ‹_› ‹_› | exact AHeap.n5 ‹_› | exact AHeap.n6 ‹_› | exact AHeap.n7 ‹_› ‹_› | exact AHeap.n8 ‹_› ‹_›)); first | done | fail) rfl ?_ | refine S.addI rfl rfl (by omega) ?_ | refine S.addU rfl rfl ?_ | refine S.addUc rfl (by decide) ?_) | (refine S.op0 rfl ?_; first | refine S.storeS rfl rfl rfl (by rfl) rfl (by first | decide | exact Nat.le_refl _ | exact Nat.le_of_ble_eq_true rfl) ?_ | refine S.store rfl rfl (by (repeat' (first | assumption | exact AHeap.set_same _ _ _ | refine AHeap.get_fresh ‹_› ?_ | refine AHeap.so ?_ ?_ | exact AHeap.n1 ‹_› | exact AHeap.n2 ‹_› | exact AHeap.ne_of ‹_› ‹_› | exact AHeap.n4 ‹_› ‹_› | exact AHeap.n5 ‹_› | exact AHeap.n6 ‹_› | exact AHeap.n7 ‹_› ‹_› | exact AHeap.n8 ‹_› ‹_›)); first | done | fail) rfl rfl rfl (by rfl) rfl ?_) | refine S.skip rfl ?_ | refine S.skip0 rfl ?_ | refine S.seq ?_ | refine S.region ?_ | refine S.condT rfl ?_ | refine S.condF rfl ?_ | refine RRun.skip ?_ | refine RRun.block ?_ | refine RRun.inBlock ?_ | refine RRun.exit rfl ?_)
    apply S.ret rr124
    case hx => repeat (first | exact ResAt.nil | apply ResAt.tmp rfl | apply ResAt.cellA rfl (by (repeat' (first | assumption | exact AHeap.set_same _ _ _ | refine AHeap.get_fresh ‹_› ?_ | refine AHeap.so ?_ ?_ | exact AHeap.n1 ‹_› | exact AHeap.n2 ‹_› | exact AHeap.ne_of ‹_› ‹_› | exact AHeap.n4 ‹_› ‹_› | exact AHeap.n5 ‹_› | exact AHeap.n6 ‹_› | exact AHeap.n7 ‹_› ‹_› | exact AHeap.n8 ‹_› ‹_›)); first | done | fail) (by rfl) | apply ResAt.cell1 rfl (by (repeat' (first | assumption | exact AHeap.set_same _ _ _ | refine AHeap.get_fresh ‹_› ?_ | refine AHeap.so ?_ ?_ | exact AHeap.n1 ‹_› | exact AHeap.n2 ‹_› | exact AHeap.ne_of ‹_› ‹_› | exact AHeap.n4 ‹_› ‹_› | exact AHeap.n5 ‹_› | exact AHeap.n6 ‹_› | exact AHeap.n7 ‹_› ‹_› | exact AHeap.n8 ‹_› ‹_›)); first | done | fail) (by rfl))
    exact ⟨v, u, kk + 1, rfl, rfl, by omega, .inr ⟨rfl, rfl⟩⟩
  | false =>
    repeat' (first | refine S.nilK ?_ | (refine S.op rfl ?_; first | refine S.addNN (n := 1) rfl rfl (by omega) ?_ | refine S.addNN rfl rfl (by omega) ?_ | refine S.subNN (n := 1) rfl rfl (by omega) (by omega) ?_ | refine S.subNN rfl rfl (by omega) (by omega) ?_ | refine S.ix rfl rfl (by omega) ?_ | refine S.ldG (by decide) rfl hb (by omega) ?_ | refine callS rfl rfl (less_is hl _) ?_ | refine R.mv rfl ?_ | refine R.nilCheck rfl ?_ | refine R.nilCheckR rfl ?_ | refine R.loadR rfl rfl ?_ | refine R.load (by decide) rfl (by (repeat' (first | assumption | exact AHeap.set_same _ _ _ | refine AHeap.get_fresh ‹_› ?_ | refine AHeap.so ?_ ?_ | exact AHeap.n1 ‹_› | exact AHeap.n2 ‹_› | exact AHeap.ne_of ‹_› ‹_› | exact AHeap.n4 ‹_› ‹_› | exact AHeap.n5 ‹_› | exact AHeap.n6 ‹_› | exact AHeap.n7 ‹_› ‹_› | exact AHeap.n8 ‹_› ‹_›)); first | done | fail) rfl ?_ | refine S.addI rfl rfl (by omega) ?_ | refine S.addU rfl rfl ?_ | refine S.addUc rfl (by decide) ?_) | (refine S.op0 rfl ?_; first | refine S.storeS rfl rfl rfl (by rfl) rfl (by first | decide | exact Nat.le_refl _ | exact Nat.le_of_ble_eq_true rfl) ?_ | refine S.store rfl rfl (by (repeat' (first | assumption | exact AHeap.set_same _ _ _ | refine AHeap.get_fresh ‹_› ?_ | refine AHeap.so ?_ ?_ | exact AHeap.n1 ‹_› | exact AHeap.n2 ‹_› | exact AHeap.ne_of ‹_› ‹_› | exact AHeap.n4 ‹_› ‹_› | exact AHeap.n5 ‹_› | exact AHeap.n6 ‹_› | exact AHeap.n7 ‹_› ‹_› | exact AHeap.n8 ‹_› ‹_›)); first | done | fail) rfl rfl rfl (by rfl) rfl ?_) | refine S.skip rfl ?_ | refine S.skip0 rfl ?_ | refine S.seq ?_ | refine S.region ?_ | refine S.condT rfl ?_ | refine S.condF rfl ?_ | refine RRun.skip ?_ | refine RRun.block ?_ | refine RRun.inBlock ?_ | refine RRun.exit rfl ?_)
    apply S.ret rr124
    case hx => repeat (first | exact ResAt.nil | apply ResAt.tmp rfl | apply ResAt.cellA rfl (by (repeat' (first | assumption | exact AHeap.set_same _ _ _ | refine AHeap.get_fresh ‹_› ?_ | refine AHeap.so ?_ ?_ | exact AHeap.n1 ‹_› | exact AHeap.n2 ‹_› | exact AHeap.ne_of ‹_› ‹_› | exact AHeap.n4 ‹_› ‹_› | exact AHeap.n5 ‹_› | exact AHeap.n6 ‹_› | exact AHeap.n7 ‹_› ‹_› | exact AHeap.n8 ‹_› ‹_›)); first | done | fail) (by rfl) | apply ResAt.cell1 rfl (by (repeat' (first | assumption | exact AHeap.set_same _ _ _ | refine AHeap.get_fresh ‹_› ?_ | refine AHeap.so ?_ ?_ | exact AHeap.n1 ‹_› | exact AHeap.n2 ‹_› | exact AHeap.ne_of ‹_› ‹_› | exact AHeap.n4 ‹_› ‹_› | exact AHeap.n5 ‹_› | exact AHeap.n6 ‹_› | exact AHeap.n7 ‹_› ‹_› | exact AHeap.n8 ‹_› ‹_›)); first | done | fail) (by rfl))
    exact ⟨u, v, kk, rfl, (AHeap.set_eq H hp).symm, by omega, .inl ⟨rfl, rfl⟩⟩

/-- slices.medianOrdered[uint64] -/
def r122 : RCode :=
  (.seq (.region [
    ⟨(some 10), none, .act, .mv (.const (.int .i64 0))⟩])
  (.seq (.region [
    ⟨(some 12), none, .act, .mv (.tmp 0)⟩,
    ⟨(some 13), none, .act, .mv (.tmp 1)⟩,
    ⟨(some 14), none, .act, .mv (.tmp 2)⟩,
    ⟨(some 15), none, .act, .mv (.tmp 4)⟩,
    ⟨(some 16), none, .act, .call 124 [(.tmp 12), (.tmp 13), (.tmp 14), (.tmp 15)]⟩,
    ⟨(some 11), none, .act, .mv (.tmp 16)⟩,
    ⟨(some 17), none, .act, .extract (.tmp 11) 0⟩,
    ⟨(some 18), none, .act, .extract (.tmp 11) 1⟩,
    ⟨(some 1), none, .act, .mv (.tmp 17)⟩,
    ⟨(some 2), none, .act, .mv (.tmp 18)⟩])
  (.seq (.region [
    ⟨(some 20), none, .act, .mv (.tmp 0)⟩,
    ⟨(some 21), none, .act, .mv (.tmp 2)⟩,
    ⟨(some 22), none, .act, .mv (.tmp 3)⟩,
    ⟨(some 23), none, .act, .mv (.tmp 4)⟩,
    ⟨(some 24), none, .act, .call 124 [(.tmp 20), (.tmp 21), (.tmp 22), (.tmp 23)]⟩,
    ⟨(some 19), none, .act, .mv (.tmp 24)⟩,
    ⟨(some 25), none, .act, .extract (.tmp 19) 0⟩,
    ⟨(some 26), none, .act, .extract (.tmp 19) 1⟩,
    ⟨(some 2), none, .act, .mv (.tmp 25)⟩,
    ⟨(some 3), none, .act, .mv (.tmp 26)⟩])
  (.seq (.region [
    ⟨(some 28), none, .act, .mv (.tmp 0)⟩,
    ⟨(some 29), none, .act, .mv (.tmp 1)⟩,
    ⟨(some 30), none, .act, .mv (.tmp 2)⟩,
    ⟨(some 31), none, .act, .mv (.tmp 4)⟩,
    ⟨(some 32), none, .act, .call 124 [(.tmp 28), (.tmp 29), (.tmp 30), (.tmp 31)]⟩,
    ⟨(some 27), none, .act, .mv (.tmp 32)⟩,
    ⟨(some 33), none, .act, .extract (.tmp 27) 0⟩,
    ⟨(some 34), none, .act, .extract (.tmp 27) 1⟩,
    ⟨(some 1), none, .act, .mv (.tmp 33)⟩,
    ⟨(some 2), none, .act, .mv (.tmp 34)⟩])
  (.seq (.region [
    ⟨(some 35), none, .act, .mv (.tmp 2)⟩,
    ⟨(some 10), none, .act, .mv (.tmp 35)⟩])
  .ret)))))
theorem res122 : ∃ c, Try.f122.body = some c ∧ resCode Try.prog 36 c = some r122 := ⟨_, rfl, by kernel_rfl⟩
theorem rr122 : resRes Try.prog Try.f122.results.toList = some [.tmp 10] := by kernel_rfl

theorem median_spec (b cap n u v w p : Nat) (sp : List AV) (hn : n ≤ 1000000) (hu : u < n) (hv : v < n) (hw : w < n) (d : Array SE) (hd : d.size = n) (H : AHeap) (hpb : p ≠ b) (hb : H b = some (.box (d.toList.map enc ++ sp))) (kk : Nat) (hk : kk ≤ 50) (hp : H p = some (.box [i64 kk])) :
    ACalls Try.prog 122 [slAt b 0 n cap, i64 u, i64 v, i64 w, ptr p] H (fun x h' => ∃ (r kk' : Nat), x = i64 r ∧ h' = H.set p (.box [i64 kk']) ∧ kk' ≤ kk + 3 ∧ (r = u ∨ r = v ∨ r = w)) := by
  obtain ⟨c, hc1, hc2⟩ := res122
  refine ACalls.enter Try.func122 hc1 Try.ntmps122 hc2 (Nat.le_of_ble_eq_true rfl) rfl ?_
  have hbp : ∀ kk, (H.set p (.box [i64 kk])) b = some (.box (d.toList.map enc ++ sp)) := fun kk => (AHeap.set_other _ _ (Ne.symm hpb)).trans hb
  repeat' (first | refine S.nilK ?_ | (refine S.op rfl ?_; first | refine R.mv rfl ?_ | refine R.extract rfl rfl ?_) | refine S.skip rfl ?_ | refine S.skip0 rfl ?_ | refine S.seq ?_ | refine S.region ?_ | refine S.condT rfl ?_ | refine S.condF rfl ?_ | refine RRun.skip ?_ | refine RRun.block ?_ | refine RRun.inBlock ?_ | refine RRun.exit rfl ?_)
  refine S.op rfl (R.call rfl rfl ((order2_spec b cap n u v p sp hn hu hv d hd H hb kk (by omega) hp).mono ?_))
  rintro x1 h1 ⟨u1, v1, k1, rfl, rfl, e1, f1⟩
  repeat' (first | refine S.nilK ?_ | (refine S.op rfl ?_; first | refine R.mv rfl ?_ | refine R.extract rfl rfl ?_) | refine S.skip rfl ?_ | refine S.skip0 rfl ?_ | refine S.seq ?_ | refine S.region ?_ | refine S.condT rfl ?_ | refine S.condF rfl ?_ | refine RRun.skip ?_ | refine RRun.block ?_ | refine RRun.inBlock ?_ | refine RRun.exit rfl ?_)
  refine S.op rfl (R.call rfl rfl ((order2_spec b cap n v1 w p sp hn (by omega) hw d hd _ (hbp _) k1 (by omega) (AHeap.set_same _ _ _)).mono ?_))
  rintro x2 h2 ⟨u2, v2, k2, rfl, rfl, e2, f2⟩
  rw [AHeap.set_set]
  repeat' (first | refine S.nilK ?_ | (refine S.op rfl ?_; first | refine R.mv rfl ?_ | refine R.extract rfl rfl ?_) | refine S.skip rfl ?_ | refine S.skip0 rfl ?_ | refine S.seq ?_ | refine S.region ?_ | refine S.condT rfl ?_ | refine S.condF rfl ?_ | refine RRun.skip ?_ | refine RRun.block ?_ | refine RRun.inBlock ?_ | refine RRun.exit rfl ?_)
  refine S.op rfl (R.call rfl rfl ((order2_spec b cap n u1 u2 p sp hn (by omega) (by omega) d hd _ (hbp _) k2 (by omega) (AHeap.set_same _ _ _)).mono ?_))
  rintro x3 h3 ⟨u3, v3, k3, rfl, rfl, e3, f3⟩
  rw [AHeap.set_set]
  repeat' (first | refine S.nilK ?_ | (refine S.op rfl ?_; first | refine R.mv rfl ?_ | refine R.extract rfl rfl ?_) | refine S.skip rfl ?_ | refine S.skip0 rfl ?_ | refine S.seq ?_ | refine S.region ?_ | refine S.condT rfl ?_ | refine S.condF rfl ?_ | refine RRun.skip ?_ | refine RRun.block ?_ | refine RRun.inBlock ?_ | refine RRun.exit rfl ?_)
  apply S.ret rr122
  case hx => repeat (first | exact ResAt.nil | apply ResAt.tmp rfl | apply ResAt.cellA rfl (by (repeat' (first | assumption | exact AHeap.set_same _ _ _ | refine AHeap.get_fresh ‹_› ?_ | refine AHeap.so ?_ ?_ | exact AHeap.n1 ‹_› | exact AHeap.n2 ‹_› | exact AHeap.ne_of ‹_› ‹_› | exact AHeap.n4 ‹_› ‹_› | exact AHeap.n5 ‹_› | exact AHeap.n6 ‹_› | exact AHeap.n7 ‹_› ‹_› | exact AHeap.n8 ‹_› ‹_›)); first | done | fail) (by rfl) | apply ResAt.cell1 rfl (by (repeat' (first | assumption | exact AHeap.set_same _ _ _ | refine AHeap.get_fresh ‹_› ?_ | refine AHeap.so ?_ ?_ | exact AHeap.n1 ‹_› | exact AHeap.n2 ‹_› | exact AHeap.ne_of ‹_› ‹_› | exact AHeap.n4 ‹_› ‹_› | exact AHeap.n5 ‹_› | exact AHeap.n6 ‹_› | exact AHeap.n7 ‹_› ‹_› | exact AHeap.n8 ‹_› ‹_›)); first | done | fail) (by rfl))
  exact ⟨v3, k3, rfl, rfl, by omega, by omega⟩

/-- slices.choosePivotOrdered[uint64] -/
def r110 : RCode :=
  (.seq (.region [
    ⟨(some 6), none, .act, .mv (.const (.int .i64 0))⟩,
    ⟨(some 7), none, .act, .mv (.const (.int .i64 0))⟩])
  (.seq (.region [
    ⟨(some 13), none, .act, .mv (.tmp 2)⟩,
    ⟨(some 14), none, .act, .mv (.tmp 1)⟩,
    ⟨(some 15), none, .act, .bin .sub (.tmp 13) (.tmp 14)⟩,
    ⟨(some 8), none, .act, .mv (.tmp 15)⟩])
  (.seq (.region [
    ⟨(some 9), none, .act, .alloc [(.int .i64 0)]⟩])
  (.seq (.region [
    ⟨(some 16), none, .act, .mv (.tmp 1)⟩,
    ⟨(some 17), none, .act, .mv (.tmp 8)⟩,
    ⟨(some 18), none, .act, .bin .quo (.tmp 17) (.const (.int .i64 4))⟩,
    ⟨(some 19), none, .act, .bin .mul (.tmp 18) (.const (.int .i64 1))⟩,
    ⟨(some 20), none, .act, .bin .add (.tmp 16) (.tmp 19)⟩,
    ⟨(some 10), none, .act, .mv (.tmp 20)⟩])
  (.seq (.region [
    ⟨(some 21), none, .act, .mv (.tmp 1)⟩,
    ⟨(some 22), none, .act, .mv (.tmp 8)⟩,
    ⟨(some 23), none, .act, .bin .quo (.tmp 22) (.const (.int .i64 4))⟩,
    ⟨(some 24), none, .act, .bin .mul (.tmp 23) (.const (.int .i64 2))⟩,
    ⟨(some 25), none, .act, .bin .add (.tmp 21) (.tmp 24)⟩,
    ⟨(some 11), none, .act, .mv (.tmp 25)⟩])
  (.seq (.region [
    ⟨(some 26), none, .act, .mv (.tmp 1)⟩,
    ⟨(some 27), none, .act, .mv (.tmp 8)⟩,
    ⟨(some 28), none, .act, .bin .quo (.tmp 27) (.const (.int .i64 4))⟩,
    ⟨(some 29), none, .act, .bin .mul (.tmp 28) (.const (.int .i64 3))⟩,
    ⟨(some 30), none, .act, .bin .add (.tmp 26) (.tmp 29)⟩,
    ⟨(some 12), none, .act, .mv (.tmp 30)⟩])
  (.seq (.seq (.region [
    ⟨(some 31), none, .act, .mv (.tmp 8)⟩,
    ⟨(some 32), none, .act, .bin .geq (.tmp 31) (.const (.int .i64 8))⟩])
  (.cond (.tmp 32)
   (.seq (.seq (.region [
     ⟨(some 33), none, .act, .mv (.tmp 8)⟩,
     ⟨(some 34), none, .act, .bin .geq (.tmp 33) (.const (.int .i64 50))⟩])
   (.cond (.tmp 34)
    (.seq (.region [
      ⟨(some 35), none, .act, .mv (.tmp 0)⟩,
      ⟨(some 36), none, .act, .mv (.tmp 10)⟩,
      ⟨(some 37), none, .act, .call 121 [(.tmp 35), (.tmp 36), (.tmp 9)]⟩,
      ⟨(some 10), none, .act, .mv (.tmp 37)⟩])
    (.seq (.region [
      ⟨(some 38), none, .act, .mv (.tmp 0)⟩,
      ⟨(some 39), none, .act, .mv (.tmp 11)⟩,
      ⟨(some 40), none, .act, .call 121 [(.tmp 38), (.tmp 39), (.tmp 9)]⟩,
      ⟨(some 11), none, .act, .mv (.tmp 40)⟩])
    (.region [
      ⟨(some 41), none, .act, .mv (.tmp 0)⟩,
      ⟨(some 42), none, .act, .mv (.tmp 12)⟩,
      ⟨(some 43), none, .act, .call 121 [(.tmp 41), (.tmp 42), (.tmp 9)]⟩,
      ⟨(some 12), none, .act, .mv (.tmp 43)⟩])))
    .skip))
   (.region [
     ⟨(some 44), none, .act, .mv (.tmp 0)⟩,
     ⟨(some 45), none, .act, .mv (.tmp 10)⟩,
     ⟨(some 46), none, .act, .mv (.tmp 11)⟩,
     ⟨(some 47), none, .act, .mv (.tmp 12)⟩,
     ⟨(some 48), none, .act, .call 122 [(.tmp 44), (.tmp 45), (.tmp 46), (.tmp 47), (.tmp 9)]⟩,
     ⟨(some 11), none, .act, .mv (.tmp 48)⟩]))
   .skip))
  (.seq (.region [
    ⟨(some 49), none, .act, .load false 1 (.tmp 9)⟩])
  (.block 0
   (.seq (.region [
     ⟨(some 52), none, .act, .eq false .int (.tmp 49) (.const (.int .i64 0))⟩,
     ⟨(some 51), none, .act, .mv (.tmp 52)⟩])
   (.cond (.tmp 51)
    (.seq (.region [
      ⟨(some 53), none, .act, .mv (.tmp 11)⟩,
      ⟨(some 6), none, .act, .mv (.tmp 53)⟩,
      ⟨(some 7), none, .act, .mv (.const (.int .i64 1))⟩])
    .ret)
    (.seq (.region [
      ⟨(some 55), none, .act, .eq false .int (.tmp 49) (.const (.int .i64 12))⟩,
      ⟨(some 54), none, .act, .mv (.tmp 55)⟩])
    (.cond (.tmp 54)
     (.seq (.region [
       ⟨(some 56), none, .act, .mv (.tmp 11)⟩,
       ⟨(some 6), none, .act, .mv (.tmp 56)⟩,
       ⟨(some 7), none, .act, .mv (.const (.int .i64 2))⟩])
     .ret)
     (.seq (.region [
       ⟨(some 50), none, .act, .mv (.tmp 11)⟩,
       ⟨(some 6), none, .act, .mv (.tmp 50)⟩,
       ⟨(some 7), none, .act, .mv (.const (.int .i64 0))⟩])
     .ret))))))))))))))
theorem res110 : ∃ c, Try.f110.body = some c ∧ resCode Try.prog 57 c = some r110 := ⟨_, rfl, by kernel_rfl⟩
theorem rr110 : resRes Try.prog Try.f110.results.toList = some [.tmp 6, .tmp 7] := by kernel_rfl

theorem choosePivot_spec (q cap n a e : Nat) (sp : List AV) (h : AHeap) (hn : n ≤ 1000000) (he : e ≤ n) (ha : a < e) (h50 : e - a < 50) (d : Array SE) (hd : d.size = n) :
    ACalls Try.prog 110 [slAt q 0 n cap, i64 a, i64 e] (HL h q d.toList sp) (fun x h' => (∃ (r t : Nat), x = .tu [i64 r, i64 t] ∧ a ≤ r ∧ r < e ∧ t ≤ 2) ∧ h' = HL h q d.toList sp) := by
  obtain ⟨c, hc1, hc2⟩ := res110
  refine ACalls.weak (ACalls.enter Try.func110 hc1 Try.ntmps110 hc2 (Nat.le_of_ble_eq_true rfl) rfl ?_)
  have hrow := HL_at h q d.toList sp
  generalize HL h q d.toList sp = H at hrow ⊢
  have q1 : (e - a) / 4 * 1 < e - a := by omega
  have q2 : (e - a) / 4 * 2 < e - a := by omega
  have q3 : (e - a) / 4 * 3 < e - a := by omega
  by_cases h8 : 8 ≤ e - a
  ·
    repeat' (first | refine S.nilK ?_ | (refine S.op rfl ?_; first | refine S.addNN (n := 1) rfl rfl (by omega) ?_ | refine S.addNN rfl rfl (by omega) ?_ | refine S.subNN (n := 1) rfl rfl (by omega) (by omega) ?_ | refine S.subNN rfl rfl (by omega) (by omega) ?_ | refine S.ix rfl rfl (by omega) ?_ | refine S.quoNN (n := 4) rfl rfl (by decide) (by omega) ?_ | refine S.mulNN (n := 1) rfl rfl (by omega) ?_ | refine S.mulNN (n := 2) rfl rfl (by omega) ?_ | refine S.mulNN (n := 3) rfl rfl (by omega) ?_ | refine R.mv rfl ?_ | refine R.loadR rfl rfl ?_ | refine R.load (by decide) rfl (by (repeat' (first | assumption | exact AHeap.set_same _ _ _ | refine AHeap.get_fresh ‹_› ?_ | refine AHeap.so ?_ ?_ | exact AHeap.n1 ‹_› | exact AHeap.n2 ‹_› | exact AHeap.ne_of ‹_› ‹_› | exact AHeap.n4 ‹_› ‹_› | exact AHeap.n5 ‹_› | exact AHeap.n6 ‹_› | exact AHeap.n7 ‹_› ‹_› | exact AHeap.n8 ‹_› ‹_›)); first | done | fail) rfl ?_ | refine S.addI rfl rfl (by omega) ?_ | refine S.subI rfl rfl (by omega) ?_ | refine S.addU rfl rfl ?_ | refine S.subU rfl rfl ?_ | refine S.addUc rfl (by decide) ?_ | refine S.subUc rfl (by decide) ?_ | refine S.arith rfl rfl rfl ?_ | refine R.eqPtrNil rfl rfl ?_ | refine R.alloc rfl (fun b hb => ?_) | ((first | refine S.geq rfl rfl ?_ ?_ | refine S.eqInt rfl rfl ?_ ?_) <;> intro hlt <;> try (exfalso; omega))) | refine S.skip rfl ?_ | refine S.skip0 rfl ?_ | refine S.seq ?_ | refine S.region ?_ | refine S.condT rfl ?_ | refine S.condF rfl ?_ | refine RRun.skip ?_ | refine RRun.block ?_ | refine RRun.inBlock ?_ | refine RRun.exit rfl ?_)
    have hpb : b ≠ q := Ne.symm (AHeap.ne_of hb hrow)
    refine S.op rfl (R.call rfl rfl ((median_spec q cap n _ _ _ b sp hn (by omega) (by omega) (by omega) d hd _ hpb ((AHeap.set_other _ _ (Ne.symm hpb)).trans hrow) 0 (by omega) (AHeap.set_same _ _ _)).mono ?_))
    rintro x1 h1 ⟨r, kk, rfl, rfl, e1, f1⟩
    rw [AHeap.set_set]
    repeat' (first | refine S.nilK ?_ | (refine S.op rfl ?_; first | refine R.mv rfl ?_ | refine R.loadR rfl rfl ?_ | refine R.load (by decide) rfl (by (repeat' (first | assumption | exact AHeap.set_same _ _ _ | refine AHeap.get_fresh ‹_› ?_ | refine AHeap.so ?_ ?_ | exact AHeap.n1 ‹_› | exact AHeap.n2 ‹_› | exact AHeap.ne_of ‹_› ‹_› | exact AHeap.n4 ‹_› ‹_› | exact AHeap.n5 ‹_› | exact AHeap.n6 ‹_› | exact AHeap.n7 ‹_› ‹_› | exact AHeap.n8 ‹_› ‹_›)); first | done | fail) rfl ?_ | refine S.addI rfl rfl (by omega) ?_ | refine S.subI rfl rfl (by omega) ?_ | refine S.addU rfl rfl ?_ | refine S.subU rfl rfl ?_ | refine S.addUc rfl (by decide) ?_ | refine S.subUc rfl (by decide) ?_ | refine S.arith rfl rfl rfl ?_ | refine R.eqPtrNil rfl rfl ?_ | refine R.alloc rfl (fun b hb => ?_) | ((first | refine S.geq rfl rfl ?_ ?_ | refine S.eqInt rfl rfl ?_ ?_) <;> intro hlt <;> try (exfalso; omega))) | refine S.skip rfl ?_ | refine S.skip0 rfl ?_ | refine S.seq ?_ | refine S.region ?_ | refine S.condT rfl ?_ | refine S.condF rfl ?_ | refine RRun.skip ?_ | refine RRun.block ?_ | refine RRun.inBlock ?_ | refine RRun.exit rfl ?_)
    · apply S.ret rr110
      case hx => repeat (first | exact ResAt.nil | apply ResAt.tmp rfl | apply ResAt.cellA rfl (by (repeat' (first | assumption | exact AHeap.set_same _ _ _ | refine AHeap.get_fresh ‹_› ?_ | refine AHeap.so ?_ ?_ | exact AHeap.n1 ‹_› | exact AHeap.n2 ‹_› | exact AHeap.ne_of ‹_› ‹_› | exact AHeap.n4 ‹_› ‹_› | exact AHeap.n5 ‹_› | exact AHeap.n6 ‹_› | exact AHeap.n7 ‹_› ‹_› | exact AHeap.n8 ‹_› ‹_›)); first | done | fail) (by rfl) | apply ResAt.cell1 rfl (by (repeat' (first | assumption | exact AHeap.set_same _ _ _ | refine AHeap.get_fresh ‹_› ?_ | refine AHeap.so ?_ ?_ | exact AHeap.n1 ‹_› | exact AHeap.n2 ‹_› | exact AHeap.ne_of ‹_› ‹_› | exact AHeap.n4 ‹_› ‹_› | exact AHeap.n5 ‹_› | exact AHeap.n6 ‹_› | exact AHeap.n7 ‹_› ‹_› | exact AHeap.n8 ‹_› ‹_›)); first | done | fail) (by rfl))
      exact ⟨_, _, .refl _, (AHeap.le.refl _).set _ hb, ⟨r, 1, rfl, by omega, by omega, by omega⟩, rfl⟩
    · apply S.ret rr110
      case hx => repeat (first | exact ResAt.nil | apply ResAt.tmp rfl | apply ResAt.cellA rfl (by (repeat' (first | assumption | exact AHeap.set_same _ _ _ | refine AHeap.get_fresh ‹_› ?_ | refine AHeap.so ?_ ?_ | exact AHeap.n1 ‹_› | exact AHeap.n2 ‹_› | exact AHeap.ne_of ‹_› ‹_› | exact AHeap.n4 ‹_› ‹_› | exact AHeap.n5 ‹_› | exact AHeap.n6 ‹_› | exact AHeap.n7 ‹_› ‹_› | exact AHeap.n8 ‹_› ‹_›)); first | done | fail) (by rfl) | apply ResAt.cell1 rfl (by (repeat' (first | assumption | exact AHeap.set_same _ _ _ | refine AHeap.get_fresh ‹_› ?_ | refine AHeap.so ?_ ?_ | exact AHeap.n1 ‹_› | exact AHeap.n2 ‹_› | exact AHeap.ne_of ‹_› ‹_› | exact AHeap.n4 ‹_› ‹_› | exact AHeap.n5 ‹_› | exact AHeap.n6 ‹_› | exact AHeap.n7 ‹_› ‹_› | exact AHeap.n8 ‹_› ‹_›)); first | done | fail) (by rfl))
      exact ⟨_, _, .refl _, (AHeap.le.refl _).set _ hb, ⟨r, 0, rfl, by omega, by omega, by omega⟩, rfl⟩
  ·
    repeat' (first | refine S.nilK ?_ | (refine S.op rfl ?_; first | refine S.addNN (n := 1) rfl rfl (by omega) ?_ | refine S.addNN rfl rfl (by omega) ?_ | refine S.subNN (n := 1) rfl rfl (by omega) (by omega) ?_ | refine S.subNN rfl rfl (by omega) (by omega) ?_ | refine S.ix rfl rfl (by omega) ?_ | refine S.quoNN (n := 4) rfl rfl (by decide) (by omega) ?_ | refine S.mulNN (n := 1) rfl rfl (by omega) ?_ | refine S.mulNN (n := 2) rfl rfl (by omega) ?_ | refine S.mulNN (n := 3) rfl rfl (by omega) ?_ | refine R.mv rfl ?_ | refine R.loadR rfl rfl ?_ | refine R.load (by decide) rfl (by (repeat' (first | assumption | exact AHeap.set_same _ _ _ | refine AHeap.get_fresh ‹_› ?_ | refine AHeap.so ?_ ?_ | exact AHeap.n1 ‹_› | exact AHeap.n2 ‹_› | exact AHeap.ne_of ‹_› ‹_› | exact AHeap.n4 ‹_› ‹_› | exact AHeap.n5 ‹_› | exact AHeap.n6 ‹_› | exact AHeap.n7 ‹_› ‹_› | exact AHeap.n8 ‹_› ‹_›)); first | done | fail) rfl ?_ | refine S.addI rfl rfl (by omega) ?_ | refine S.subI rfl rfl (by omega) ?_ | refine S.addU rfl rfl ?_ | refine S.subU rfl rfl ?_ | refine S.addUc rfl (by decide) ?_ | refine S.subUc rfl (by decide) ?_ | refine S.arith rfl rfl rfl ?_ | refine R.eqPtrNil rfl rfl ?_ | refine R.alloc rfl (fun b hb => ?_) | ((first | refine S.geq rfl rfl ?_ ?_ | refine S.eqInt rfl rfl ?_ ?_) <;> intro hlt <;> try (exfalso; omega))) | refine S.skip rfl ?_ | refine S.skip0 rfl ?_ | refine S.seq ?_ | refine S.region ?_ | refine S.condT rfl ?_ | refine S.condF rfl ?_ | refine RRun.skip ?_ | refine RRun.block ?_ | refine RRun.inBlock ?_ | refine RRun.exit rfl ?_)
    apply S.ret rr110
    case hx => repeat (first | exact ResAt.nil | apply ResAt.tmp rfl | apply ResAt.cellA rfl (by (repeat' (first | assumption | exact AHeap.set_same _ _ _ | refine AHeap.get_fresh ‹_› ?_ | refine AHeap.so ?_ ?_ | exact AHeap.n1 ‹_› | exact AHeap.n2 ‹_› | exact AHeap.ne_of ‹_› ‹_› | exact AHeap.n4 ‹_› ‹_› | exact AHeap.n5 ‹_› | exact AHeap.n6 ‹_› | exact AHeap.n7 ‹_› ‹_› | exact AHeap.n8 ‹_› ‹_›)); first | done | fail) (by rfl) | apply ResAt.cell1 rfl (by (repeat' (first | assumption | exact AHeap.set_same _ _ _ | refine AHeap.get_fresh ‹_› ?_ | refine AHeap.so ?_ ?_ | exact AHeap.n1 ‹_› | exact AHeap.n2 ‹_› | exact AHeap.ne_of ‹_› ‹_› | exact AHeap.n4 ‹_› ‹_› | exact AHeap.n5 ‹_› | exact AHeap.n6 ‹_› | exact AHeap.n7 ‹_› ‹_› | exact AHeap.n8 ‹_› ‹_›)); first | done | fail) (by rfl))
    exact ⟨_, _, .refl _, (AHeap.le.refl _).set _ hb, ⟨a + (e - a) / 4 * 2, 1, rfl, by omega, by omega, by omega⟩, rfl⟩

end Go.Proofs.Ytnmgamcmjjngcaa
