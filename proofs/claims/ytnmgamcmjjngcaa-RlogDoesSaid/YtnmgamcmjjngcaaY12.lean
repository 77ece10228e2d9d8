import Derived.Test.YtnmgamcmjjngcaaY11
import Derived.Test.YtnmgamcmjjngcaaT5b
set_option linter.unusedVariables false
set_option linter.unusedSimpArgs false
namespace Go.Proofs.Ytnmgamcmjjngcaa
open Go.Av

structure Deed8 where
  kind : Int
  l : List Entry
  i : UInt64
  data : List UInt8
def Deed8.cells (d : Deed8) : List AV := [i64 d.kind, entries d.l, u64 d.i, bys d.data]
def deeds8 (l : List Deed8) : AV := .sl 4 (l.map Deed8.cells) .ro

theorem small_facts {l : List Entry} (h : small l = true) : l.length ≤ 12 ∧ ∀ x ∈ l, x.data.length ≤ 100 := by
  simp only [small, Bool.and_eq_true, decide_eq_true_eq, List.all_eq_true] at h
  exact ⟨by omega, fun x hx => by have := h.2 x hx; omega⟩

def two (h : AHeap) (p q : Nat) (L : Log) : AHeap := (h.set p (.box L.cells)).set q (.box L.cells)
theorem two_p {h : AHeap} {p q : Nat} (hpq : p ≠ q) (L : Log) : two h p q L p = some (.box L.cells) := by
  rw [two, AHeap.set_other _ _ hpq]; exact AHeap.set_same _ _ _
theorem two_q {h : AHeap} {p q : Nat} (L : Log) : two h p q L q = some (.box L.cells) := AHeap.set_same _ _ _

def md7 : Nat → Bool := fun id => [5, 16, 18].contains id
def r7l0 : RCode :=
  (.seq (.region [
    ⟨(some 28), none, .act, .bin .lss (.tmp 27) (.tmp 26)⟩])
  (.seq (.cond (.tmp 28)
   .skip
   (.exit 0))
  (.seq (.block 1
   (.seq (.region [
     ⟨(some 29), none, .act, .indexAddr 4 (.tmp 25) (.tmp 27)⟩,
     ⟨(some 30), none, .act, .load true 4 (.tmp 29)⟩,
     ⟨(some 8), none, .act, .alloc [(.int .i64 0), (.slice none 0 0), (.int .u64 0), (.slice none 0 0)]⟩,
     ⟨none, none, .act, .store 4 (.tmp 8) (.tmp 30)⟩])
   (.seq (.seq (.region [
     ⟨(some 31), none, .act, .fieldAddr 1 (.tmp 8)⟩,
     ⟨(some 32), none, .act, .load false 1 (.tmp 31)⟩,
     ⟨(some 33), none, .act, .call 12 [(.tmp 32)]⟩,
     ⟨(some 34), none, .act, .un .not (.tmp 33)⟩,
     ⟨(some 35), none, .act, .mv (.tmp 34)⟩,
     ⟨(some 36), (some (35, false)), .act, .fieldAddr 3 (.tmp 8)⟩,
     ⟨(some 37), (some (35, false)), .act, .load false 1 (.tmp 36)⟩,
     ⟨(some 38), (some (35, false)), .act, .len (.tmp 37)⟩,
     ⟨(some 39), (some (35, false)), .act, .bin .gtr (.tmp 38) (.const (.int .i64 200))⟩,
     ⟨(some 40), none, .act, .pick (.tmp 35) (.const (.bool true)) (.tmp 39)⟩])
   (.cond (.tmp 40)
    (.seq (.region [
      ⟨(some 4), none, .act, .mv (.const (.bool true))⟩])
    .ret)
    .skip))
   (.seq (.region [
     ⟨(some 9), none, .act, .mv (.const (.int .i64 0))⟩,
     ⟨(some 10), none, .act, .mv (.const (.int .i64 0))⟩])
   (.seq (.seq (.region [
     ⟨(some 41), none, .act, .fieldAddr 0 (.tmp 8)⟩,
     ⟨(some 42), none, .act, .load false 1 (.tmp 41)⟩])
   (.block 2
    (.seq (.region [
      ⟨(some 52), none, .act, .eq false .int (.tmp 42) (.const (.int .i64 0))⟩,
      ⟨(some 51), none, .act, .mv (.tmp 52)⟩])
    (.cond (.tmp 51)
     (.regionT (.step ⟨(some 53), none, .pure, .mv (.tmp 5)⟩ (.step ⟨(some 54), none, .pure, .fieldAddr 1 (.tmp 8)⟩ (.step ⟨(some 55), none, .read, .load false 1 (.tmp 54)⟩ (.step ⟨(some 57), none, .pure, .mv (.tmp 6)⟩ (.step ⟨(some 58), none, .pure, .fieldAddr 1 (.tmp 8)⟩ (.alt ⟨(some 56), none, .act, .call 14 [(.tmp 53), (.tmp 55)]⟩ (.step ⟨(some 59), none, .read, .load false 1 (.tmp 58)⟩ (.alt ⟨(some 60), none, .act, .call 32 [(.tmp 57), (.tmp 59)]⟩ (.step ⟨(some 9), none, .pure, .mv (.tmp 56)⟩ (.step ⟨(some 10), none, .pure, .mv (.tmp 60)⟩ .done))
    .stop))
    (.alt ⟨(some 59), none, .read, .load false 1 (.tmp 58)⟩ (.alt ⟨(some 56), none, .act, .call 14 [(.tmp 53), (.tmp 55)]⟩ (.alt ⟨(some 60), none, .act, .call 32 [(.tmp 57), (.tmp 59)]⟩ (.step ⟨(some 9), none, .pure, .mv (.tmp 56)⟩ (.step ⟨(some 10), none, .pure, .mv (.tmp 60)⟩ .done))
    .stop)
    .stop)
    .stop))))))))
     (.seq (.region [
       ⟨(some 62), none, .act, .eq false .int (.tmp 42) (.const (.int .i64 1))⟩,
       ⟨(some 61), none, .act, .mv (.tmp 62)⟩])
     (.cond (.tmp 61)
      (.regionT (.step ⟨(some 63), none, .pure, .mv (.tmp 5)⟩ (.step ⟨(some 64), none, .pure, .fieldAddr 2 (.tmp 8)⟩ (.step ⟨(some 65), none, .read, .load false 1 (.tmp 64)⟩ (.step ⟨(some 66), none, .pure, .fieldAddr 3 (.tmp 8)⟩ (.step ⟨(some 67), none, .read, .load false 1 (.tmp 66)⟩ (.step ⟨(some 69), none, .pure, .mv (.tmp 6)⟩ (.step ⟨(some 70), none, .pure, .fieldAddr 2 (.tmp 8)⟩ (.step ⟨(some 72), none, .pure, .fieldAddr 3 (.tmp 8)⟩ (.alt ⟨(some 68), none, .act, .call 33 [(.tmp 63), (.tmp 65), (.tmp 67)]⟩ (.step ⟨(some 71), none, .read, .load false 1 (.tmp 70)⟩ (.step ⟨(some 73), none, .read, .load false 1 (.tmp 72)⟩ (.alt ⟨(some 74), none, .act, .call 34 [(.tmp 69), (.tmp 71), (.tmp 73)]⟩ (.step ⟨(some 9), none, .pure, .mv (.tmp 68)⟩ (.step ⟨(some 10), none, .pure, .mv (.tmp 74)⟩ .done))
    .stop)))
    (.alt ⟨(some 71), none, .read, .load false 1 (.tmp 70)⟩ (.alt ⟨(some 68), none, .act, .call 33 [(.tmp 63), (.tmp 65), (.tmp 67)]⟩ (.step ⟨(some 73), none, .read, .load false 1 (.tmp 72)⟩ (.alt ⟨(some 74), none, .act, .call 34 [(.tmp 69), (.tmp 71), (.tmp 73)]⟩ (.step ⟨(some 9), none, .pure, .mv (.tmp 68)⟩ (.step ⟨(some 10), none, .pure, .mv (.tmp 74)⟩ .done))
    .stop))
    (.alt ⟨(some 73), none, .read, .load false 1 (.tmp 72)⟩ (.alt ⟨(some 68), none, .act, .call 33 [(.tmp 63), (.tmp 65), (.tmp 67)]⟩ (.alt ⟨(some 74), none, .act, .call 34 [(.tmp 69), (.tmp 71), (.tmp 73)]⟩ (.step ⟨(some 9), none, .pure, .mv (.tmp 68)⟩ (.step ⟨(some 10), none, .pure, .mv (.tmp 74)⟩ .done))
    .stop)
    .stop)
    .stop))
    (.alt ⟨(some 73), none, .read, .load false 1 (.tmp 72)⟩ (.alt ⟨(some 68), none, .act, .call 33 [(.tmp 63), (.tmp 65), (.tmp 67)]⟩ (.step ⟨(some 71), none, .read, .load false 1 (.tmp 70)⟩ (.alt ⟨(some 74), none, .act, .call 34 [(.tmp 69), (.tmp 71), (.tmp 73)]⟩ (.step ⟨(some 9), none, .pure, .mv (.tmp 68)⟩ (.step ⟨(some 10), none, .pure, .mv (.tmp 74)⟩ .done))
    .stop))
    (.alt ⟨(some 71), none, .read, .load false 1 (.tmp 70)⟩ (.alt ⟨(some 68), none, .act, .call 33 [(.tmp 63), (.tmp 65), (.tmp 67)]⟩ (.alt ⟨(some 74), none, .act, .call 34 [(.tmp 69), (.tmp 71), (.tmp 73)]⟩ (.step ⟨(some 9), none, .pure, .mv (.tmp 68)⟩ (.step ⟨(some 10), none, .pure, .mv (.tmp 74)⟩ .done))
    .stop)
    .stop)
    .stop))
    .stop))))))))))))
      (.seq (.region [
        ⟨(some 43), none, .act, .mv (.tmp 5)⟩,
        ⟨(some 44), none, .act, .call 35 [(.tmp 43)]⟩])
      (.region [
        ⟨(some 45), none, .act, .mv (.tmp 6)⟩,
        ⟨(some 46), none, .act, .mv (.tmp 6)⟩,
        ⟨(some 47), none, .act, .nilCheck (.tmp 45)⟩,
        ⟨(some 48), none, .act, .fieldAddr 5 (.tmp 47)⟩,
        ⟨none, none, .act, .store 1 (.tmp 48) (.const (.int .u64 0))⟩,
        ⟨(some 49), none, .act, .nilCheck (.tmp 46)⟩,
        ⟨(some 50), none, .act, .fieldAddr 6 (.tmp 49)⟩,
        ⟨none, none, .act, .store 1 (.tmp 50) (.const (.bool false))⟩]))))))))
   (.seq (.region [
     ⟨(some 75), none, .act, .mv (.tmp 9)⟩,
     ⟨(some 76), none, .act, .mv (.tmp 10)⟩,
     ⟨(some 77), none, .act, .eq true .int (.tmp 75) (.tmp 76)⟩,
     ⟨(some 78), none, .act, .mv (.tmp 77)⟩,
     ⟨(some 79), (some (78, false)), .act, .mv (.tmp 5)⟩,
     ⟨(some 80), (some (78, false)), .act, .mv (.tmp 6)⟩,
     ⟨(some 81), (some (78, false)), .act, .call 36 [(.tmp 79), (.tmp 80)]⟩,
     ⟨(some 82), (some (78, false)), .act, .un .not (.tmp 81)⟩,
     ⟨(some 83), none, .act, .pick (.tmp 78) (.const (.bool true)) (.tmp 82)⟩])
   (.cond (.tmp 83)
    (.seq (.region [
      ⟨(some 4), none, .act, .mv (.const (.bool false))⟩])
    .ret)
    .skip)))))))
  (.region [
    ⟨(some 84), none, .act, .bin .add (.tmp 27) (.const (.int .i64 1))⟩,
    ⟨(some 27), none, .act, .mv (.tmp 84)⟩]))))
/-- plenum/plenumlaw08.RlogDoes -/
def r7 : RCode :=
  (.seq (.region [
    ⟨(some 2), none, .act, .box (.tmp 0)⟩,
    ⟨(some 4), none, .act, .mv (.const (.bool false))⟩])
  (.seq (.seq (.region [
    ⟨(some 11), none, .act, .call 10 []⟩,
    ⟨(some 12), none, .act, .un .not (.tmp 11)⟩])
  (.cond (.tmp 12)
   (.seq (.region [
     ⟨(some 4), none, .act, .mv (.const (.bool false))⟩])
   .ret)
   .skip))
  (.seq (.seq (.region [
    ⟨(some 13), none, .act, .load true 4 (.tmp 2)⟩,
    ⟨(some 14), none, .act, .call 11 [(.tmp 13)]⟩,
    ⟨(some 15), none, .act, .un .not (.tmp 14)⟩,
    ⟨(some 16), none, .act, .mv (.tmp 15)⟩,
    ⟨(some 17), (some (16, false)), .act, .mv (.tmp 1)⟩,
    ⟨(some 18), (some (16, false)), .act, .len (.tmp 17)⟩,
    ⟨(some 19), (some (16, false)), .act, .bin .gtr (.tmp 18) (.const (.int .i64 20))⟩,
    ⟨(some 20), none, .act, .pick (.tmp 16) (.const (.bool true)) (.tmp 19)⟩])
  (.cond (.tmp 20)
   (.seq (.region [
     ⟨(some 4), none, .act, .mv (.const (.bool true))⟩])
   .ret)
   .skip))
  (.seq (.regionT (.step ⟨(some 21), none, .read, .load true 4 (.tmp 2)⟩ (.alt ⟨(some 22), none, .act, .call 13 [(.tmp 21)]⟩ (.step ⟨(some 23), none, .read, .load true 4 (.tmp 2)⟩ (.alt ⟨(some 24), none, .act, .call 31 [(.tmp 23)]⟩ (.step ⟨(some 5), none, .pure, .mv (.tmp 22)⟩ (.step ⟨(some 6), none, .pure, .mv (.tmp 24)⟩ .done))
    .stop))
    (.alt ⟨(some 23), none, .read, .load true 4 (.tmp 2)⟩ (.alt ⟨(some 22), none, .act, .call 13 [(.tmp 21)]⟩ (.alt ⟨(some 24), none, .act, .call 31 [(.tmp 23)]⟩ (.step ⟨(some 5), none, .pure, .mv (.tmp 22)⟩ (.step ⟨(some 6), none, .pure, .mv (.tmp 24)⟩ .done))
    .stop)
    .stop)
    .stop))))
  (.seq (.seq (.region [
    ⟨(some 25), none, .act, .mv (.tmp 1)⟩,
    ⟨(some 26), none, .act, .len (.tmp 25)⟩,
    ⟨(some 27), none, .act, .mv (.const (.int .i64 0))⟩])
  (.block 0
   (.loop r7l0)))
  (.seq (.region [
    ⟨(some 4), none, .act, .mv (.const (.bool true))⟩])
  .ret))))))
theorem res7 : ∃ c, Try.f7.body = some c ∧ resCodeM Try.prog 85 md7 c = some r7 := ⟨_, rfl, by kernel_rfl⟩
theorem rr7 : resRes Try.prog Try.f7.results.toList = some [.tmp 4] := by kernel_rfl
theorem rd_append (l : List Deed8) (N : Nat) (hN : l.length = N) (hN2 : N ≤ 20) (i : Nat) (hi : i < N) (d : Deed8) (hgi : (l.map Deed8.cells)[((i : Nat) : Int).toNat]? = some d.cells) (sd : small d.l = true) (hd : d.data.length ≤ 200) (k0 : d.kind = 0)
    (L : Log) (hL : L.ok i) {p q : Nat} (hpq : p ≠ q) (h : AHeap) (hp : h p = some (.box L.cells)) (hq : h q = some (.box L.cells)) (k : List RT) (Q : AV → AHeap → Prop)
    (nxt : ∀ h', h' p = some (.box (L.append d.l).1.cells) → h' q = some (.box (L.append d.l).1.cells) → RRun Try.prog Try.f7 85 (.inLoop r7l0 :: .inBlock 0 :: k) (Env.get [(27, i64 (i + 1 : Nat)), (26, i64 N), (25, deeds8 l), (5, ptr p), (6, ptr q)]) h' Q) :
    RRun Try.prog Try.f7 85 (.inLoop r7l0 :: .inBlock 0 :: k) (Env.get [(27, i64 i), (26, i64 N), (25, deeds8 l), (5, ptr p), (6, ptr q)]) h Q := by
  have hlen0 : (l.map Deed8.cells).length = N := by simp [hN]
  have hlend := len_bytes d.data
  obtain ⟨s1, s2⟩ := small_facts sd
  have g1 := hL.len
  have g2 := hL.top
  have c12 := fun h => small_spec d.l (by omega) h
  rw [sd] at c12
  have c14 : ∀ b, h b = none → ACalls Try.prog 14 [ptr p, entries d.l] (h.set b (.box d.cells)) (fun x h' => x = i64 (L.append d.l).2 ∧ h' = (h.set b (.box d.cells)).set p (.box (L.append d.l).1.cells)) := fun b hb =>
    append_spec L d.l (fun x hx => Nat.le_trans (s2 x hx) (by decide)) (by omega) (by omega) (by omega) p _ (AHeap.get_fresh hb hp)
  have c32 : ∀ b, h b = none → ACalls Try.prog 32 [ptr q, entries d.l] ((h.set b (.box d.cells)).set p (.box (L.append d.l).1.cells)) (fun x h' => x = i64 (L.append d.l).2 ∧ h' = two (h.set b (.box d.cells)) p q (L.append d.l).1) := fun b hb =>
    rappend_spec L i hL (by omega) d.l (by omega) q _ (by rw [AHeap.set_other _ _ (Ne.symm hpq)]; exact AHeap.get_fresh hb hq)
  have ok' := hL.append (by omega) s1 s2
  generalize (L.append d.l).1 = L' at c14 c32 nxt ok'
  generalize (L.append d.l).2 = r at c14 c32
  have c36 : ∀ b, ACalls Try.prog 36 [ptr p, ptr q] (two (h.set b (.box d.cells)) p q L') (fun x h' => x = bl true ∧ h' = two (h.set b (.box d.cells)) p q L') := fun b => sameLog_spec L' (i + 1) ok' (by omega) p q _ (two_p hpq L') (two_q L')
  have nxt' := fun b => nxt (two (h.set b (.box d.cells)) p q L') (two_p hpq L') (two_q L')
  refine RRun.inLoop ?_
  repeat' (first
    | refine S.nilK ?_
    | (refine S.op rfl ?_; first
      | refine R.indexAddr rfl rfl (by omega) hgi ?_
      | refine R.callQ (by decide) rfl (c12 _) ?_
      | refine callS rfl rfl (c14 _ (by assumption)) ?_
      | refine callS rfl rfl (c32 _ (by assumption)) ?_
      | refine R.callQ (by decide) rfl (c36 _) ?_
      | refine S.eqIntSame rfl rfl ?_
      | refine R.mv rfl ?_
      | refine R.fieldAddr rfl ?_
      | refine R.fieldAddrR rfl ?_
      | refine R.nilCheck rfl ?_
      | refine R.nilCheckR rfl ?_
      | refine R.loadR rfl rfl ?_
      | refine R.load (by decide) rfl (by (repeat' (first | assumption | exact AHeap.set_same _ _ _ | refine AHeap.get_fresh (by assumption) ?_ | refine AHeap.so ?_ ?_ | exact AHeap.n1 (by assumption) | exact AHeap.n2 (by assumption) | exact AHeap.ne_of (by assumption) (by assumption) | exact AHeap.n4 (by assumption) (by assumption) | exact AHeap.n5 (by assumption) | exact AHeap.n6 (by assumption) | exact AHeap.n7 (by assumption) (by assumption) | exact AHeap.n8 (by assumption) (by assumption))); first | done | fail) rfl ?_
      | refine S.addI rfl rfl (by omega) ?_
      | refine S.subI rfl rfl (by omega) ?_
      | refine S.addU rfl rfl ?_
      | refine S.subU rfl rfl ?_
      | refine S.addUc rfl (by decide) ?_
      | refine S.subUc rfl (by decide) ?_
      | refine S.arith rfl rfl rfl ?_
      | refine R.pickT rfl rfl ?_
      | refine R.pickF rfl rfl ?_
      | refine R.len rfl ?_
      | refine R.lenA rfl ?_
      | refine R.lenStr rfl ?_
      | refine S.convIU rfl (by omega) ?_
      | refine S.convUI rfl (by omega) ?_
      | refine R.convInt rfl ?_
      | refine R.not rfl ?_
      | refine R.eqPtrNil rfl rfl ?_
      | refine R.extract rfl rfl ?_
      | refine R.field rfl rfl ?_
      | refine R.alloc rfl (fun b hb => ?_)
      | refine R.box rfl rfl rfl (fun b hb => ?_)
      | refine R.build rfl rfl ?_
      | refine R.buildSl rfl rfl rfl (by decide) ?_
      | refine R.toStr rfl ?_
      | refine R.convStr rfl ?_
      | refine R.minmax rfl ?_
      | refine R.makeFunc rfl rfl ?_
      | (first | refine S.lss rfl rfl (fun hlt => ?_) (fun hlt => by exfalso; omega) | refine S.lss rfl rfl (fun hlt => by exfalso; omega) (fun hlt => ?_) | refine S.lss rfl rfl (fun hlt => ?_) (fun hlt => ?_))
      | (first | refine S.gtr rfl rfl (fun hlt => ?_) (fun hlt => by exfalso; omega) | refine S.gtr rfl rfl (fun hlt => by exfalso; omega) (fun hlt => ?_) | refine S.gtr rfl rfl (fun hlt => ?_) (fun hlt => ?_))
      | (first | refine S.leq rfl rfl (fun hlt => ?_) (fun hlt => by exfalso; omega) | refine S.leq rfl rfl (fun hlt => by exfalso; omega) (fun hlt => ?_) | refine S.leq rfl rfl (fun hlt => ?_) (fun hlt => ?_))
      | (first | refine S.geq rfl rfl (fun hlt => ?_) (fun hlt => by exfalso; omega) | refine S.geq rfl rfl (fun hlt => by exfalso; omega) (fun hlt => ?_) | refine S.geq rfl rfl (fun hlt => ?_) (fun hlt => ?_))
      | (first | refine S.eqInt rfl rfl (fun hlt => ?_) (fun hlt => by exfalso; omega) | refine S.eqInt rfl rfl (fun hlt => by exfalso; omega) (fun hlt => ?_) | refine S.eqInt rfl rfl (fun hlt => ?_) (fun hlt => ?_)))
    | (refine S.op0 rfl ?_; first | refine S.storeS rfl rfl rfl (by rfl) rfl (by first | decide | exact Nat.le_refl _ | exact Nat.le_of_ble_eq_true rfl) ?_ | refine S.store rfl rfl (by (repeat' (first | assumption | exact AHeap.set_same _ _ _ | refine AHeap.get_fresh (by assumption) ?_ | refine AHeap.so ?_ ?_ | exact AHeap.n1 (by assumption) | exact AHeap.n2 (by assumption) | exact AHeap.ne_of (by assumption) (by assumption) | exact AHeap.n4 (by assumption) (by assumption) | exact AHeap.n5 (by assumption) | exact AHeap.n6 (by assumption) | exact AHeap.n7 (by assumption) (by assumption) | exact AHeap.n8 (by assumption) (by assumption))); first | done | fail) rfl rfl rfl (by rfl) rfl ?_)
    | refine S.skip rfl ?_
    | refine S.skip0 rfl ?_
    | refine S.seq ?_
    | refine S.region ?_
    | refine S.regionT ?_
    | refine S.tstep ?_
    | refine S.talt ?_ ?_
    | exact S.tstop
    | refine S.tdone ?_
    | refine S.condT rfl ?_
    | refine S.condF rfl ?_
    | refine RRun.skip ?_
    | refine RRun.block ?_
    | refine RRun.inBlock ?_
    | refine RRun.exit rfl ?_)
  all_goals
    rw [show ((i : Int) + 1) = ((i + 1 : Nat) : Int) by omega]
    exact S.keep [27, 26, 25, 5, 6] rfl (nxt' _)

theorem rd_compact (l : List Deed8) (N : Nat) (hN : l.length = N) (hN2 : N ≤ 20) (i : Nat) (hi : i < N) (d : Deed8) (hgi : (l.map Deed8.cells)[((i : Nat) : Int).toNat]? = some d.cells) (sd : small d.l = true) (hd : d.data.length ≤ 200) (k1 : d.kind = 1)
    (L : Log) (hL : L.ok i) {p q : Nat} (hpq : p ≠ q) (h : AHeap) (hp : h p = some (.box L.cells)) (hq : h q = some (.box L.cells)) (k : List RT) (Q : AV → AHeap → Prop)
    (nxt : ∀ h', h' p = some (.box (L.compact d.i d.data).1.cells) → h' q = some (.box (L.compact d.i d.data).1.cells) → RRun Try.prog Try.f7 85 (.inLoop r7l0 :: .inBlock 0 :: k) (Env.get [(27, i64 (i + 1 : Nat)), (26, i64 N), (25, deeds8 l), (5, ptr p), (6, ptr q)]) h' Q) :
    RRun Try.prog Try.f7 85 (.inLoop r7l0 :: .inBlock 0 :: k) (Env.get [(27, i64 i), (26, i64 N), (25, deeds8 l), (5, ptr p), (6, ptr q)]) h Q := by
  have hlen0 : (l.map Deed8.cells).length = N := by simp [hN]
  have hlend := len_bytes d.data
  obtain ⟨s1, s2⟩ := small_facts sd
  have g1 := hL.len
  have g2 := hL.top
  have g3 := hL.members
  have c12 := fun h => small_spec d.l (by omega) h
  rw [sd] at c12
  have c33 : ∀ b, h b = none → ACalls Try.prog 33 [ptr p, u64 d.i, bys d.data] (h.set b (.box d.cells)) (fun x h' => x = i64 (L.compact d.i d.data).2 ∧ h' = (h.set b (.box d.cells)).set p (.box (L.compact d.i d.data).1.cells)) := fun b hb =>
    compact_spec L (fun x hx => Nat.le_trans (hL.small x hx) (by decide)) (by omega) (by omega) (by omega) d.i d.data (by omega) p _ (AHeap.get_fresh hb hp)
  have c34 : ∀ b, h b = none → ACalls Try.prog 34 [ptr q, u64 d.i, bys d.data] ((h.set b (.box d.cells)).set p (.box (L.compact d.i d.data).1.cells)) (fun x h' => x = i64 (L.compact d.i d.data).2 ∧ h' = two (h.set b (.box d.cells)) p q (L.compact d.i d.data).1) := fun b hb =>
    rcompact_spec L i hL (by omega) d.i d.data q _ (by rw [AHeap.set_other _ _ (Ne.symm hpq)]; exact AHeap.get_fresh hb hq)
  have ok' := hL.compact (by omega) d.i hd
  generalize (L.compact d.i d.data).1 = L' at c33 c34 nxt ok'
  generalize (L.compact d.i d.data).2 = r at c33 c34
  have c36 : ∀ b, ACalls Try.prog 36 [ptr p, ptr q] (two (h.set b (.box d.cells)) p q L') (fun x h' => x = bl true ∧ h' = two (h.set b (.box d.cells)) p q L') := fun b => sameLog_spec L' (i + 1) ok' (by omega) p q _ (two_p hpq L') (two_q L')
  have nxt' := fun b => nxt (two (h.set b (.box d.cells)) p q L') (two_p hpq L') (two_q L')
  refine RRun.inLoop ?_
  repeat' (first
    | refine S.nilK ?_
    | (refine S.op rfl ?_; first
      | refine R.indexAddr rfl rfl (by omega) hgi ?_
      | refine R.callQ (by decide) rfl (c12 _) ?_
      | refine callS rfl rfl (c33 _ (by assumption)) ?_
      | refine callS rfl rfl (c34 _ (by assumption)) ?_
      | refine R.callQ (by decide) rfl (c36 _) ?_
      | refine S.eqIntSame rfl rfl ?_
      | refine R.mv rfl ?_
      | refine R.fieldAddr rfl ?_
      | refine R.fieldAddrR rfl ?_
      | refine R.nilCheck rfl ?_
      | refine R.nilCheckR rfl ?_
      | refine R.loadR rfl rfl ?_
      | refine R.load (by decide) rfl (by (repeat' (first | assumption | exact AHeap.set_same _ _ _ | refine AHeap.get_fresh (by assumption) ?_ | refine AHeap.so ?_ ?_ | exact AHeap.n1 (by assumption) | exact AHeap.n2 (by assumption) | exact AHeap.ne_of (by assumption) (by assumption) | exact AHeap.n4 (by assumption) (by assumption) | exact AHeap.n5 (by assumption) | exact AHeap.n6 (by assumption) | exact AHeap.n7 (by assumption) (by assumption) | exact AHeap.n8 (by assumption) (by assumption))); first | done | fail) rfl ?_
      | refine S.addI rfl rfl (by omega) ?_
      | refine S.subI rfl rfl (by omega) ?_
      | refine S.addU rfl rfl ?_
      | refine S.subU rfl rfl ?_
      | refine S.addUc rfl (by decide) ?_
      | refine S.subUc rfl (by decide) ?_
      | refine S.arith rfl rfl rfl ?_
      | refine R.pickT rfl rfl ?_
      | refine R.pickF rfl rfl ?_
      | refine R.len rfl ?_
      | refine R.lenA rfl ?_
      | refine R.lenStr rfl ?_
      | refine S.convIU rfl (by omega) ?_
      | refine S.convUI rfl (by omega) ?_
      | refine R.convInt rfl ?_
      | refine R.not rfl ?_
      | refine R.eqPtrNil rfl rfl ?_
      | refine R.extract rfl rfl ?_
      | refine R.field rfl rfl ?_
      | refine R.alloc rfl (fun b hb => ?_)
      | refine R.box rfl rfl rfl (fun b hb => ?_)
      | refine R.build rfl rfl ?_
      | refine R.buildSl rfl rfl rfl (by decide) ?_
      | refine R.toStr rfl ?_
      | refine R.convStr rfl ?_
      | refine R.minmax rfl ?_
      | refine R.makeFunc rfl rfl ?_
      | (first | refine S.lss rfl rfl (fun hlt => ?_) (fun hlt => by exfalso; omega) | refine S.lss rfl rfl (fun hlt => by exfalso; omega) (fun hlt => ?_) | refine S.lss rfl rfl (fun hlt => ?_) (fun hlt => ?_))
      | (first | refine S.gtr rfl rfl (fun hlt => ?_) (fun hlt => by exfalso; omega) | refine S.gtr rfl rfl (fun hlt => by exfalso; omega) (fun hlt => ?_) | refine S.gtr rfl rfl (fun hlt => ?_) (fun hlt => ?_))
      | (first | refine S.leq rfl rfl (fun hlt => ?_) (fun hlt => by exfalso; omega) | refine S.leq rfl rfl (fun hlt => by exfalso; omega) (fun hlt => ?_) | refine S.leq rfl rfl (fun hlt => ?_) (fun hlt => ?_))
      | (first | refine S.geq rfl rfl (fun hlt => ?_) (fun hlt => by exfalso; omega) | refine S.geq rfl rfl (fun hlt => by exfalso; omega) (fun hlt => ?_) | refine S.geq rfl rfl (fun hlt => ?_) (fun hlt => ?_))
      | (first | refine S.eqInt rfl rfl (fun hlt => ?_) (fun hlt => by exfalso; omega) | refine S.eqInt rfl rfl (fun hlt => by exfalso; omega) (fun hlt => ?_) | refine S.eqInt rfl rfl (fun hlt => ?_) (fun hlt => ?_)))
    | (refine S.op0 rfl ?_; first | refine S.storeS rfl rfl rfl (by rfl) rfl (by first | decide | exact Nat.le_refl _ | exact Nat.le_of_ble_eq_true rfl) ?_ | refine S.store rfl rfl (by (repeat' (first | assumption | exact AHeap.set_same _ _ _ | refine AHeap.get_fresh (by assumption) ?_ | refine AHeap.so ?_ ?_ | exact AHeap.n1 (by assumption) | exact AHeap.n2 (by assumption) | exact AHeap.ne_of (by assumption) (by assumption) | exact AHeap.n4 (by assumption) (by assumption) | exact AHeap.n5 (by assumption) | exact AHeap.n6 (by assumption) | exact AHeap.n7 (by assumption) (by assumption) | exact AHeap.n8 (by assumption) (by assumption))); first | done | fail) rfl rfl rfl (by rfl) rfl ?_)
    | refine S.skip rfl ?_
    | refine S.skip0 rfl ?_
    | refine S.seq ?_
    | refine S.region ?_
    | refine S.regionT ?_
    | refine S.tstep ?_
    | refine S.talt ?_ ?_
    | exact S.tstop
    | refine S.tdone ?_
    | refine S.condT rfl ?_
    | refine S.condF rfl ?_
    | refine RRun.skip ?_
    | refine RRun.block ?_
    | refine RRun.inBlock ?_
    | refine RRun.exit rfl ?_)
  all_goals
    rw [show ((i : Int) + 1) = ((i + 1 : Nat) : Int) by omega]
    exact S.keep [27, 26, 25, 5, 6] rfl (nxt' _)

theorem rd_clean (l : List Deed8) (N : Nat) (hN : l.length = N) (hN2 : N ≤ 20) (i : Nat) (hi : i < N) (d : Deed8) (hgi : (l.map Deed8.cells)[((i : Nat) : Int).toNat]? = some d.cells) (sd : small d.l = true) (hd : d.data.length ≤ 200) (k0 : d.kind ≠ 0) (k1 : d.kind ≠ 1)
    (L : Log) (hL : L.ok i) {p q : Nat} (hpq : p ≠ q) (h : AHeap) (hp : h p = some (.box L.cells)) (hq : h q = some (.box L.cells)) (k : List RT) (Q : AV → AHeap → Prop)
    (nxt : ∀ h', h' p = some (.box (Log.cells { L with dirty := 0, fresh := false })) → h' q = some (.box (Log.cells { L with dirty := 0, fresh := false })) → RRun Try.prog Try.f7 85 (.inLoop r7l0 :: .inBlock 0 :: k) (Env.get [(27, i64 (i + 1 : Nat)), (26, i64 N), (25, deeds8 l), (5, ptr p), (6, ptr q)]) h' Q) :
    RRun Try.prog Try.f7 85 (.inLoop r7l0 :: .inBlock 0 :: k) (Env.get [(27, i64 i), (26, i64 N), (25, deeds8 l), (5, ptr p), (6, ptr q)]) h Q := by
  have hlen0 : (l.map Deed8.cells).length = N := by simp [hN]
  have hlend := len_bytes d.data
  obtain ⟨s1, s2⟩ := small_facts sd
  have c12 := fun h => small_spec d.l (by omega) h
  rw [sd] at c12
  have c35 : ∀ b, h b = none → ACalls Try.prog 35 [ptr p] (h.set b (.box d.cells)) (fun _ h' => h' = (h.set b (.box d.cells)).set p (.box (Log.cells { L with dirty := 0, fresh := false }))) := fun b hb =>
    clean_spec L p _ (AHeap.get_fresh hb hp)
  have ok' := hL.clean.more (Nat.le_succ i)
  have hq' : ∀ b, h b = none → ((h.set b (.box d.cells)).set p (.box (Log.cells { L with dirty := 0, fresh := false }))) q = some (.box L.cells) := fun b hb => by
    rw [AHeap.set_other _ _ (Ne.symm hpq)]; exact AHeap.get_fresh hb hq
  have c36 : ∀ b, ACalls Try.prog 36 [ptr p, ptr q] (two (h.set b (.box d.cells)) p q { L with dirty := 0, fresh := false }) (fun x h' => x = bl true ∧ h' = two (h.set b (.box d.cells)) p q { L with dirty := 0, fresh := false }) := fun b => sameLog_spec _ (i + 1) ok' (by omega) p q _ (two_p hpq _) (two_q _)
  have nxt' := fun b => nxt (two (h.set b (.box d.cells)) p q { L with dirty := 0, fresh := false }) (two_p hpq _) (two_q _)
  have hqp : q ≠ p := Ne.symm hpq
  refine RRun.inLoop ?_
  repeat' (first
    | refine S.nilK ?_
    | (refine S.op rfl ?_; first
      | refine R.indexAddr rfl rfl (by omega) hgi ?_
      | refine R.callQ (by decide) rfl (c12 _) ?_
      | refine callU rfl rfl (c35 _ (by assumption)) (fun _ => ?_)
      | refine R.callQ (by decide) rfl (c36 _) ?_
      | refine S.eqIntSame rfl rfl ?_
      | refine R.mv rfl ?_
      | refine R.fieldAddr rfl ?_
      | refine R.fieldAddrR rfl ?_
      | refine R.nilCheck rfl ?_
      | refine R.nilCheckR rfl ?_
      | refine R.loadR rfl rfl ?_
      | refine R.load (by decide) rfl (by (repeat' (first | assumption | exact AHeap.set_same _ _ _ | refine AHeap.get_fresh (by assumption) ?_ | refine AHeap.so ?_ ?_ | exact AHeap.n1 (by assumption) | exact AHeap.n2 (by assumption) | exact AHeap.ne_of (by assumption) (by assumption) | exact AHeap.n4 (by assumption) (by assumption) | exact AHeap.n5 (by assumption) | exact AHeap.n6 (by assumption) | exact AHeap.n7 (by assumption) (by assumption) | exact AHeap.n8 (by assumption) (by assumption))); first | done | fail) rfl ?_
      | refine S.addI rfl rfl (by omega) ?_
      | refine S.subI rfl rfl (by omega) ?_
      | refine S.addU rfl rfl ?_
      | refine S.subU rfl rfl ?_
      | refine S.addUc rfl (by decide) ?_
      | refine S.subUc rfl (by decide) ?_
      | refine S.arith rfl rfl rfl ?_
      | refine R.pickT rfl rfl ?_
      | refine R.pickF rfl rfl ?_
      | refine R.len rfl ?_
      | refine R.lenA rfl ?_
      | refine R.lenStr rfl ?_
      | refine S.convIU rfl (by omega) ?_
      | refine S.convUI rfl (by omega) ?_
      | refine R.convInt rfl ?_
      | refine R.not rfl ?_
      | refine R.eqPtrNil rfl rfl ?_
      | refine R.extract rfl rfl ?_
      | refine R.field rfl rfl ?_
      | refine R.alloc rfl (fun b hb => ?_)
      | refine R.box rfl rfl rfl (fun b hb => ?_)
      | refine R.build rfl rfl ?_
      | refine R.buildSl rfl rfl rfl (by decide) ?_
      | refine R.toStr rfl ?_
      | refine R.convStr rfl ?_
      | refine R.minmax rfl ?_
      | refine R.makeFunc rfl rfl ?_
      | (first | refine S.lss rfl rfl (fun hlt => ?_) (fun hlt => by exfalso; omega) | refine S.lss rfl rfl (fun hlt => by exfalso; omega) (fun hlt => ?_) | refine S.lss rfl rfl (fun hlt => ?_) (fun hlt => ?_))
      | (first | refine S.gtr rfl rfl (fun hlt => ?_) (fun hlt => by exfalso; omega) | refine S.gtr rfl rfl (fun hlt => by exfalso; omega) (fun hlt => ?_) | refine S.gtr rfl rfl (fun hlt => ?_) (fun hlt => ?_))
      | (first | refine S.leq rfl rfl (fun hlt => ?_) (fun hlt => by exfalso; omega) | refine S.leq rfl rfl (fun hlt => by exfalso; omega) (fun hlt => ?_) | refine S.leq rfl rfl (fun hlt => ?_) (fun hlt => ?_))
      | (first | refine S.geq rfl rfl (fun hlt => ?_) (fun hlt => by exfalso; omega) | refine S.geq rfl rfl (fun hlt => by exfalso; omega) (fun hlt => ?_) | refine S.geq rfl rfl (fun hlt => ?_) (fun hlt => ?_))
      | (first | refine S.eqInt rfl rfl (fun hlt => ?_) (fun hlt => by exfalso; omega) | refine S.eqInt rfl rfl (fun hlt => by exfalso; omega) (fun hlt => ?_) | refine S.eqInt rfl rfl (fun hlt => ?_) (fun hlt => ?_)))
    | (refine S.op0 rfl ?_; first | refine S.storeS rfl rfl rfl (by rfl) rfl (by first | decide | exact Nat.le_refl _ | exact Nat.le_of_ble_eq_true rfl) ?_ | refine S.store rfl rfl (by (repeat' (first | assumption | exact AHeap.set_same _ _ _ | refine AHeap.get_fresh (by assumption) ?_ | refine AHeap.so ?_ ?_ | exact AHeap.n1 (by assumption) | exact AHeap.n2 (by assumption) | exact AHeap.ne_of (by assumption) (by assumption) | exact AHeap.n4 (by assumption) (by assumption) | exact AHeap.n5 (by assumption) | exact AHeap.n6 (by assumption) | exact AHeap.n7 (by assumption) (by assumption) | exact AHeap.n8 (by assumption) (by assumption))); first | done | fail) rfl rfl rfl (by rfl) rfl ?_)
    | refine S.skip rfl ?_
    | refine S.skip0 rfl ?_
    | refine S.seq ?_
    | refine S.region ?_
    | refine S.regionT ?_
    | refine S.tstep ?_
    | refine S.talt ?_ ?_
    | exact S.tstop
    | refine S.tdone ?_
    | refine S.condT rfl ?_
    | refine S.condF rfl ?_
    | refine RRun.skip ?_
    | refine RRun.block ?_
    | refine RRun.inBlock ?_
    | refine RRun.exit rfl ?_)
  all_goals
    rw [show ((i : Int) + 1) = ((i + 1 : Nat) : Int) by omega]
    exact S.keep [27, 26, 25, 5, 6] rfl (nxt' _)

end Go.Proofs.Ytnmgamcmjjngcaa
