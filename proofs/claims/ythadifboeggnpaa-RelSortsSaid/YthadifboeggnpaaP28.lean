/-
  the law RelSorts of plenum/plenumlaw24 answers true for all arguments
-/
import Derived.Test.YthadifboeggnpaaP27
set_option linter.unusedVariables false
set_option linter.unusedSimpArgs false
namespace Go.Av
theorem S.negK {P : Program} {c : Cls} {E : AEnv} {h : AHeap} {K : AV → AHeap → Prop} (a k : Int) {x : Operand} (hx : aev E x = some (i64 a)) (e : IntKind.i64.wrap (0 - a) = k) (hk : K (i64 k) h) : ROpS P c (.un .neg x) E h K := R.neg hx (by rw [e]; exact hk)
end Go.Av
namespace Go.Proofs.Ythadifboeggnpaa
open Go.Av
def r32l0 : RCode :=
  (.seq (.region [
    ⟨(some 13), none, .act, .bin .lss (.tmp 12) (.tmp 11)⟩])
  (.seq (.cond (.tmp 13)
   .skip
   (.exit 0))
  (.seq (.block 1
   (.seq (.region [
     ⟨(some 14), none, .act, .indexAddr 2 (.tmp 10) (.tmp 12)⟩,
     ⟨(some 15), none, .act, .load true 2 (.tmp 14)⟩,
     ⟨(some 8), none, .act, .alloc [(.int .i64 0), (.bool false)]⟩,
     ⟨none, none, .act, .store 2 (.tmp 8) (.tmp 15)⟩])
   (.seq (.region [
     ⟨(some 16), none, .pure, .mv (.tmp 0)⟩,
     ⟨(some 17), none, .pure, .fieldAddr 0 (.tmp 8)⟩,
     ⟨(some 18), none, .read, .load false 1 (.tmp 17)⟩,
     ⟨(some 19), none, .read, .call 40 [(.tmp 16), (.tmp 18)]⟩,
     ⟨(some 20), none, .pure, .mv (.tmp 1)⟩,
     ⟨(some 21), none, .pure, .fieldAddr 0 (.tmp 8)⟩,
     ⟨(some 22), none, .read, .load false 1 (.tmp 21)⟩,
     ⟨(some 23), none, .act, .call 40 [(.tmp 20), (.tmp 22)]⟩,
     ⟨(some 24), none, .act, .call 17 [(.tmp 19), (.tmp 23)]⟩,
     ⟨(some 9), none, .pure, .mv (.tmp 24)⟩])
   (.seq (.seq (.region [
     ⟨(some 25), none, .act, .fieldAddr 1 (.tmp 8)⟩,
     ⟨(some 26), none, .act, .load false 1 (.tmp 25)⟩])
   (.cond (.tmp 26)
    (.region [
      ⟨(some 27), none, .act, .mv (.tmp 9)⟩,
      ⟨(some 28), none, .act, .un .neg (.tmp 27)⟩,
      ⟨(some 9), none, .act, .mv (.tmp 28)⟩])
    .skip))
   (.seq (.region [
     ⟨(some 29), none, .act, .mv (.tmp 9)⟩,
     ⟨(some 30), none, .act, .eq true .int (.tmp 29) (.const (.int .i64 0))⟩])
   (.cond (.tmp 30)
    (.seq (.region [
      ⟨(some 31), none, .act, .mv (.tmp 9)⟩,
      ⟨(some 32), none, .act, .bin .lss (.tmp 31) (.const (.int .i64 0))⟩,
      ⟨(some 6), none, .act, .mv (.tmp 32)⟩])
    .ret)
    .skip))))))
  (.region [
    ⟨(some 33), none, .act, .bin .add (.tmp 12) (.const (.int .i64 1))⟩,
    ⟨(some 12), none, .act, .mv (.tmp 33)⟩]))))
def r32 : RCode :=
  (.seq (.region [
    ⟨(some 6), none, .act, .mv (.const (.bool false))⟩])
  (.seq (.seq (.region [
    ⟨(some 10), none, .act, .mv (.tmp 2)⟩,
    ⟨(some 11), none, .act, .len (.tmp 10)⟩,
    ⟨(some 12), none, .act, .mv (.const (.int .i64 0))⟩])
  (.block 0
   (.loop r32l0)))
  (.seq (.region [
    ⟨(some 6), none, .act, .mv (.const (.bool false))⟩])
  .ret)))
theorem res32 : ∃ c, Try.f32.body = some c ∧ resCode Try.prog 34 c = some r32 := ⟨_, rfl, by kernel_rfl⟩
theorem rr32 : resRes Try.prog Try.f32.results.toList = some [.tmp 6] := by kernel_rfl
theorem less_loop (l : List (Int × Bool)) (hl : l.length ≤ 1000000) (hf : ∀ p ∈ l, Fits p.1) (x y : Row) (h : AHeap) (k : List RT) (Q : AV → AHeap → Prop)
    (hk : cmpR l x y = 0 → RRun Try.prog Try.f32 34 k (Env.get []) h Q) (hq : ∀ h', h.le h' → Q (bl (ltR l x y)) h') : ∀ (m i : Nat), i + m = l.length → cmpR l x y = cmpR (l.drop i) x y →
    RRun Try.prog Try.f32 34 (.inLoop r32l0 :: .inBlock 0 :: k) (Env.get [(0, rowA x), (1, rowA y), (10, bysA l), (11, i64 l.length), (12, i64 i)]) h Q := by
  intro m
  induction m with
  | zero =>
    intro i hi ht
    rw [List.drop_of_length_le (by omega)] at ht
    refine RRun.inLoop ?_
    repeat' (first | refine S.nilK ?_ | (refine S.op rfl ?_; first | ((first | refine S.lss rfl rfl ?_ ?_) <;> intro hlt <;> try (exfalso; omega))) | refine S.seq ?_ | refine S.region ?_ | refine S.condF rfl ?_ | refine RRun.exit rfl ?_)
    exact S.keep [] rfl (hk ht)
  | succ m ih =>
    intro i hi ht
    have hie : i < l.length := by omega
    have h1 : (l.map fun p => [i64 p.1, bl p.2])[((i : Nat) : Int).toNat]? = some [i64 l[i].1, bl l[i].2] := by simp [hie]
    have hfi := hf _ (List.getElem_mem hie)
    unfold ltR at hq
    rw [cmpR_drop hie] at ht
    generalize l[i] = p at h1 hfi ht
    obtain ⟨n, b⟩ := p
    simp only at h1 hfi ht
    have c40x := fun h => place_spec x n hfi h
    have c40y := fun h => place_spec y n hfi h
    have c17 := fun h => refOrder_spec (atF x n) (atF y n) h
    have hsm := ordV_wo.sm (atF x n) (atF y n)
    generalize ordV (atF x n) (atF y n) = o at c17 ht hsm
    generalize atF x n = vx at c40x c17
    generalize atF y n = vy at c40y c17
    refine RRun.inLoop ?_
    rcases hsm with rfl | rfl | rfl
    · cases b with
      | false =>
        rw [ht] at hq
        repeat' (first | refine S.nilK ?_ | (refine S.op rfl ?_; first | refine R.indexAddr rfl rfl (by omega) h1 ?_ | refine R.callQ (by decide) rfl (c40x _) ?_ | refine R.callQ (by decide) rfl (c40y _) ?_ | refine callS rfl rfl (c17 _) ?_ | refine R.mv rfl ?_ | refine R.fieldAddr rfl ?_ | refine R.loadR rfl rfl ?_ | refine R.load (by decide) rfl (by (repeat' (first | exact AHeap.set_same _ _ _)); first | done | fail) rfl ?_ | refine R.alloc rfl (fun b hb => ?_) | ((first | refine S.lss rfl rfl ?_ ?_ | refine S.eqInt rfl rfl ?_ ?_) <;> intro hlt <;> try (exfalso; omega))) | (refine S.op0 rfl ?_; first | refine S.storeS rfl rfl rfl (by rfl) rfl (by first | decide | exact Nat.le_refl _ | exact Nat.le_of_ble_eq_true rfl) ?_) | refine S.seq ?_ | refine S.region ?_ | refine S.condT rfl ?_ | refine S.condF rfl ?_ | refine RRun.skip ?_ | refine RRun.block ?_)
        apply S.ret rr32
        case hx => repeat (first | exact ResAt.nil | apply ResAt.tmp rfl)
        exact hq _ (by repeat (first | exact AHeap.le.refl _ | refine AHeap.le.set ?_ _ (by (repeat' (first | assumption)); first | done | fail)))
      | true =>
        rw [ht] at hq
        repeat' (first | refine S.nilK ?_ | (refine S.op rfl ?_; first | refine R.indexAddr rfl rfl (by omega) h1 ?_ | refine R.callQ (by decide) rfl (c40x _) ?_ | refine R.callQ (by decide) rfl (c40y _) ?_ | refine callS rfl rfl (c17 _) ?_ | refine S.negK (-1) 1 rfl (by decide) ?_ | refine R.mv rfl ?_ | refine R.fieldAddr rfl ?_ | refine R.loadR rfl rfl ?_ | refine R.load (by decide) rfl (by (repeat' (first | exact AHeap.set_same _ _ _)); first | done | fail) rfl ?_ | refine R.alloc rfl (fun b hb => ?_) | ((first | refine S.lss rfl rfl ?_ ?_ | refine S.eqInt rfl rfl ?_ ?_) <;> intro hlt <;> try (exfalso; omega))) | (refine S.op0 rfl ?_; first | refine S.storeS rfl rfl rfl (by rfl) rfl (by first | decide | exact Nat.le_refl _ | exact Nat.le_of_ble_eq_true rfl) ?_) | refine S.seq ?_ | refine S.region ?_ | refine S.condT rfl ?_ | refine RRun.skip ?_ | refine RRun.block ?_)
        apply S.ret rr32
        case hx => repeat (first | exact ResAt.nil | apply ResAt.tmp rfl)
        exact hq _ (by repeat (first | exact AHeap.le.refl _ | refine AHeap.le.set ?_ _ (by (repeat' (first | assumption)); first | done | fail)))
    · have ht' : cmpR l x y = cmpR (l.drop (i + 1)) x y := by rw [ht]; cases b <;> simp
      cases b with
      | false =>
        repeat' (first | refine S.nilK ?_ | (refine S.op rfl ?_; first | refine R.indexAddr rfl rfl (by omega) h1 ?_ | refine R.callQ (by decide) rfl (c40x _) ?_ | refine R.callQ (by decide) rfl (c40y _) ?_ | refine callS rfl rfl (c17 _) ?_ | refine S.eqIntSame (a := 0) rfl rfl ?_ | refine R.mv rfl ?_ | refine R.fieldAddr rfl ?_ | refine R.loadR rfl rfl ?_ | refine R.load (by decide) rfl (by (repeat' (first | exact AHeap.set_same _ _ _)); first | done | fail) rfl ?_ | refine S.addI rfl rfl (by omega) ?_ | refine R.alloc rfl (fun b hb => ?_) | ((first | refine S.lss rfl rfl ?_ ?_) <;> intro hlt <;> try (exfalso; omega))) | (refine S.op0 rfl ?_; first | refine S.storeS rfl rfl rfl (by rfl) rfl (by first | decide | exact Nat.le_refl _ | exact Nat.le_of_ble_eq_true rfl) ?_) | refine S.seq ?_ | refine S.region ?_ | refine S.condT rfl ?_ | refine S.condF rfl ?_ | refine RRun.skip ?_ | refine RRun.block ?_ | refine RRun.inBlock ?_)
        rw [show ((i : Int) + 1) = ((i + 1 : Nat) : Int) by omega]
        exact S.keep [0, 1, 10, 11, 12] rfl (S.drop (by repeat (first | exact AHeap.le.refl _ | refine AHeap.le.set ?_ _ (by (repeat' (first | assumption)); first | done | fail))) (ih (i + 1) (by omega) ht'))
      | true =>
        repeat' (first | refine S.nilK ?_ | (refine S.op rfl ?_; first | refine R.indexAddr rfl rfl (by omega) h1 ?_ | refine R.callQ (by decide) rfl (c40x _) ?_ | refine R.callQ (by decide) rfl (c40y _) ?_ | refine callS rfl rfl (c17 _) ?_ | refine S.eqIntSame (a := 0) rfl rfl ?_ | refine S.negK 0 0 rfl (by decide) ?_ | refine R.mv rfl ?_ | refine R.fieldAddr rfl ?_ | refine R.loadR rfl rfl ?_ | refine R.load (by decide) rfl (by (repeat' (first | exact AHeap.set_same _ _ _)); first | done | fail) rfl ?_ | refine S.addI rfl rfl (by omega) ?_ | refine R.alloc rfl (fun b hb => ?_) | ((first | refine S.lss rfl rfl ?_ ?_) <;> intro hlt <;> try (exfalso; omega))) | (refine S.op0 rfl ?_; first | refine S.storeS rfl rfl rfl (by rfl) rfl (by first | decide | exact Nat.le_refl _ | exact Nat.le_of_ble_eq_true rfl) ?_) | refine S.seq ?_ | refine S.region ?_ | refine S.condT rfl ?_ | refine S.condF rfl ?_ | refine RRun.skip ?_ | refine RRun.block ?_ | refine RRun.inBlock ?_)
        rw [show ((i : Int) + 1) = ((i + 1 : Nat) : Int) by omega]
        exact S.keep [0, 1, 10, 11, 12] rfl (S.drop (by repeat (first | exact AHeap.le.refl _ | refine AHeap.le.set ?_ _ (by (repeat' (first | assumption)); first | done | fail))) (ih (i + 1) (by omega) ht'))
    · cases b with
      | false =>
        rw [ht] at hq
        repeat' (first | refine S.nilK ?_ | (refine S.op rfl ?_; first | refine R.indexAddr rfl rfl (by omega) h1 ?_ | refine R.callQ (by decide) rfl (c40x _) ?_ | refine R.callQ (by decide) rfl (c40y _) ?_ | refine callS rfl rfl (c17 _) ?_ | refine R.mv rfl ?_ | refine R.fieldAddr rfl ?_ | refine R.loadR rfl rfl ?_ | refine R.load (by decide) rfl (by (repeat' (first | exact AHeap.set_same _ _ _)); first | done | fail) rfl ?_ | refine R.alloc rfl (fun b hb => ?_) | ((first | refine S.lss rfl rfl ?_ ?_ | refine S.eqInt rfl rfl ?_ ?_) <;> intro hlt <;> try (exfalso; omega))) | (refine S.op0 rfl ?_; first | refine S.storeS rfl rfl rfl (by rfl) rfl (by first | decide | exact Nat.le_refl _ | exact Nat.le_of_ble_eq_true rfl) ?_) | refine S.seq ?_ | refine S.region ?_ | refine S.condT rfl ?_ | refine S.condF rfl ?_ | refine RRun.skip ?_ | refine RRun.block ?_)
        apply S.ret rr32
        case hx => repeat (first | exact ResAt.nil | apply ResAt.tmp rfl)
        exact hq _ (by repeat (first | exact AHeap.le.refl _ | refine AHeap.le.set ?_ _ (by (repeat' (first | assumption)); first | done | fail)))
      | true =>
        rw [ht] at hq
        repeat' (first | refine S.nilK ?_ | (refine S.op rfl ?_; first | refine R.indexAddr rfl rfl (by omega) h1 ?_ | refine R.callQ (by decide) rfl (c40x _) ?_ | refine R.callQ (by decide) rfl (c40y _) ?_ | refine callS rfl rfl (c17 _) ?_ | refine S.negK 1 (-1) rfl (by decide) ?_ | refine R.mv rfl ?_ | refine R.fieldAddr rfl ?_ | refine R.loadR rfl rfl ?_ | refine R.load (by decide) rfl (by (repeat' (first | exact AHeap.set_same _ _ _)); first | done | fail) rfl ?_ | refine R.alloc rfl (fun b hb => ?_) | ((first | refine S.lss rfl rfl ?_ ?_ | refine S.eqInt rfl rfl ?_ ?_) <;> intro hlt <;> try (exfalso; omega))) | (refine S.op0 rfl ?_; first | refine S.storeS rfl rfl rfl (by rfl) rfl (by first | decide | exact Nat.le_refl _ | exact Nat.le_of_ble_eq_true rfl) ?_) | refine S.seq ?_ | refine S.region ?_ | refine S.condT rfl ?_ | refine RRun.skip ?_ | refine RRun.block ?_)
        apply S.ret rr32
        case hx => repeat (first | exact ResAt.nil | apply ResAt.tmp rfl)
        exact hq _ (by repeat (first | exact AHeap.le.refl _ | refine AHeap.le.set ?_ _ (by (repeat' (first | assumption)); first | done | fail)))
theorem refLess_spec (l : List (Int × Bool)) (hl : l.length ≤ 1000000) (hf : ∀ p ∈ l, Fits p.1) (x y : Row) (h : AHeap) :
    ACalls Try.prog 32 [rowA x, rowA y, bysA l] h (fun z h' => z = bl (ltR l x y) ∧ h' = h) := by
  obtain ⟨c', hc1, hc2⟩ := res32
  refine ACalls.weak (ACalls.enter Try.func32 hc1 Try.ntmps32 hc2 (Nat.le_of_ble_eq_true rfl) rfl ?_)
  have hlen : (l.map fun p => [i64 p.1, bl p.2]).length = l.length := by simp
  repeat' (first | refine S.nilK ?_ | (refine S.op rfl ?_; first | refine R.mv rfl ?_ | refine R.len rfl ?_) | refine S.seq ?_ | refine S.region ?_ | refine RRun.block ?_)
  rw [hlen]
  refine RRun.loopIn (S.keep [0, 1, 10, 11, 12] rfl (less_loop l hl hf x y h _ _ (fun he => ?_) (fun h' hh => ⟨_, h, .refl _, hh, rfl, rfl⟩) l.length 0 (by omega) rfl))
  repeat' (first | refine S.nilK ?_ | (refine S.op rfl ?_; first | refine R.mv rfl ?_) | refine S.seq ?_ | refine S.region ?_)
  apply S.ret rr32
  case hx => repeat (first | exact ResAt.nil | apply ResAt.tmp rfl)
  exact ⟨_, h, .refl _, (by repeat (first | exact AHeap.le.refl _)), by unfold ltR; rw [he]; rfl, rfl⟩
def r18l1 : RCode :=
  (.seq (.seq (.region [
    ⟨(some 17), none, .act, .mv (.tmp 8)⟩,
    ⟨(some 18), none, .act, .bin .gtr (.tmp 17) (.const (.int .i64 0))⟩,
    ⟨(some 19), none, .act, .mv (.tmp 18)⟩,
    ⟨(some 20), (some (19, true)), .act, .mv (.tmp 7)⟩,
    ⟨(some 21), (some (19, true)), .act, .mv (.tmp 5)⟩,
    ⟨(some 22), (some (19, true)), .act, .mv (.tmp 8)⟩,
    ⟨(some 23), (some (19, true)), .act, .bin .sub (.tmp 22) (.const (.int .i64 1))⟩,
    ⟨(some 24), (some (19, true)), .act, .indexAddr 1 (.tmp 21) (.tmp 23)⟩,
    ⟨(some 25), (some (19, true)), .act, .load false 1 (.tmp 24)⟩,
    ⟨(some 26), (some (19, true)), .act, .mv (.tmp 1)⟩,
    ⟨(some 27), (some (19, true)), .act, .call 32 [(.tmp 20), (.tmp 25), (.tmp 26)]⟩,
    ⟨(some 28), none, .act, .pick (.tmp 19) (.tmp 27) (.const (.bool false))⟩])
  (.cond (.tmp 28)
   .skip
   (.exit 2)))
  (.block 3
   (.region [
     ⟨(some 29), none, .act, .mv (.tmp 8)⟩,
     ⟨(some 30), none, .act, .bin .sub (.tmp 29) (.const (.int .i64 1))⟩,
     ⟨(some 8), none, .act, .mv (.tmp 30)⟩])))
def r18l0 : RCode :=
  (.seq (.region [
    ⟨(some 12), none, .act, .bin .lss (.tmp 11) (.tmp 10)⟩])
  (.seq (.cond (.tmp 12)
   .skip
   (.exit 0))
  (.seq (.block 1
   (.seq (.region [
     ⟨(some 13), none, .act, .indexAddr 1 (.tmp 9) (.tmp 11)⟩,
     ⟨(some 14), none, .act, .load false 1 (.tmp 13)⟩,
     ⟨(some 7), none, .act, .mv (.tmp 14)⟩])
   (.seq (.region [
     ⟨(some 15), none, .act, .mv (.tmp 5)⟩,
     ⟨(some 16), none, .act, .len (.tmp 15)⟩,
     ⟨(some 8), none, .act, .mv (.tmp 16)⟩])
   (.seq (.block 2
    (.loop r18l1))
   (.region [
     ⟨(some 31), none, .pure, .mv (.tmp 5)⟩,
     ⟨(some 32), none, .pure, .mv (.tmp 8)⟩,
     ⟨(some 33), none, .pure, .mv (.tmp 8)⟩,
     ⟨(some 34), none, .pure, .sliceSl 1 (.tmp 31) none (some (.tmp 32)) (some (.tmp 33))⟩,
     ⟨(some 35), none, .pure, .mv (.tmp 7)⟩,
     ⟨(some 36), none, .pure, .buildSl 1 [(.slice none 0 0)] 1 [(0, (.tmp 35))]⟩,
     ⟨(some 37), none, .pure, .mv (.tmp 5)⟩,
     ⟨(some 38), none, .pure, .mv (.tmp 8)⟩,
     ⟨(some 39), none, .pure, .sliceSl 1 (.tmp 37) (some (.tmp 38)) none none⟩,
     ⟨(some 40), none, .act, .append 1 24 [(.slice none 0 0)] (.tmp 36) (.tmp 39)⟩,
     ⟨(some 41), none, .act, .append 1 24 [(.slice none 0 0)] (.tmp 34) (.tmp 40)⟩,
     ⟨(some 5), none, .pure, .mv (.tmp 41)⟩])))))
  (.region [
    ⟨(some 42), none, .act, .bin .add (.tmp 11) (.const (.int .i64 1))⟩,
    ⟨(some 11), none, .act, .mv (.tmp 42)⟩]))))
def r18 : RCode :=
  (.seq (.region [
    ⟨(some 4), none, .act, .mv (.const (.slice none 0 0))⟩])
  (.seq (.region [
    ⟨(some 5), none, .act, .mv (.const (.slice none 0 0))⟩])
  (.seq (.seq (.region [
    ⟨(some 9), none, .act, .mv (.tmp 0)⟩,
    ⟨(some 10), none, .act, .len (.tmp 9)⟩,
    ⟨(some 11), none, .act, .mv (.const (.int .i64 0))⟩])
  (.block 0
   (.loop r18l0)))
  (.seq (.region [
    ⟨(some 43), none, .act, .mv (.tmp 5)⟩,
    ⟨(some 4), none, .act, .mv (.tmp 43)⟩])
  .ret))))
theorem res18 : ∃ c, Try.f18.body = some c ∧ resCode Try.prog 44 c = some r18 := ⟨_, rfl, by kernel_rfl⟩
theorem rr18 : resRes Try.prog Try.f18.results.toList = some [.tmp 4] := by kernel_rfl
theorem rs_in {by' : List (Int × Bool)} (hb1 : by'.length ≤ 1000000) (hb2 : ∀ p ∈ by', Fits p.1) (rows : List Row) (n i : Nat) (x : Row) (acc : List Row) (hacc : acc.length ≤ 1000000) (hs : St.Sorted (ltR by') acc) (h : AHeap) (ks : List RT) (Q : AV → AHeap → Prop)
    (H : ∀ L1 L2, acc = L1 ++ L2 → St.ins (ltR by') x acc = L1 ++ x :: L2 → RRun Try.prog Try.f18 44 ks (Env.get [(1, bysA by'), (5, rowsC acc .ro), (7, rowA x), (8, i64 L1.length), (9, rowsA rows), (10, i64 n), (11, i64 i)]) h Q) : ∀ (m : Nat) (L1 L2 : List Row), L1.length = m → acc = L1 ++ L2 → (∀ y, L2.head? = some y → ltR by' x y = true) →
    RRun Try.prog Try.f18 44 (.inLoop r18l1 :: .inBlock 2 :: ks) (Env.get [(1, bysA by'), (5, rowsC acc .ro), (7, rowA x), (8, i64 m), (9, rowsA rows), (10, i64 n), (11, i64 i)]) h Q := by
  intro m
  induction m with
  | zero =>
    intro L1 L2 hm he h2
    have h0 := List.eq_nil_of_length_eq_zero hm
    subst h0
    refine RRun.inLoop ?_
    repeat' (first | refine S.nilK ?_ | (refine S.op rfl ?_; first | refine R.mv rfl ?_ | refine R.pickF rfl rfl ?_ | ((first | refine S.gtr rfl rfl ?_ ?_) <;> intro hlt <;> try (exfalso; omega))) | refine S.skip rfl ?_ | refine S.seq ?_ | refine S.region ?_ | refine S.condF rfl ?_ | refine RRun.exit rfl ?_)
    exact S.keep [1, 5, 7, 8, 9, 10, 11] rfl (H [] L2 he (by rw [he]; exact St.ins_at (fun y hy => by cases hy) h2))
  | succ m ih =>
    intro L1 L2 hm he h2
    rcases List.eq_nil_or_concat L1 with h0 | ⟨L1, y, rfl⟩
    · rw [h0] at hm; simp at hm
    · rw [List.concat_eq_append] at *
      have hm' : L1.length = m := by simpa using hm
      have hY : (acc.map fun r => [rowA r])[(((m + 1 : Nat) : Int) - 1).toNat]? = some [rowA y] := by
        rw [show (((m + 1 : Nat) : Int) - 1).toNat = L1.length by omega, List.getElem?_map, he]
        have e : L1 ++ [y] ++ L2 = L1 ++ y :: L2 := by simp
        rw [e, get_mid]; rfl
      have hlen : (acc.map fun r => [rowA r]).length = acc.length := by simp
      have hml : m + 1 ≤ acc.length := by rw [he]; simp; omega
      have c32 := fun h => refLess_spec by' hb1 hb2 x y h
      have i1 := fun hlt => ih L1 (y :: L2) hm' (by rw [he]; simp) (fun z hz => by cases hz; exact hlt)
      have i2 := fun hge : ltR by' x y = false => H (L1 ++ [y]) L2 he (by
        rw [he]
        refine St.ins_at (fun z hz => ?_) h2
        rcases List.mem_append.1 hz with hz | hz
        · rw [he] at hs
          have h3 := List.pairwise_append.1 (List.pairwise_append.1 hs).1
          exact (ltR_sw by').neg _ _ _ hge (h3.2.2 z hz y (List.mem_singleton.2 rfl))
        · rw [List.mem_singleton.1 hz]; exact hge)
      rw [hm] at i2
      generalize ltR by' x y = o at c32 i1 i2
      refine RRun.inLoop ?_
      cases o with
      | true =>
        repeat' (first | refine S.nilK ?_ | (refine S.op rfl ?_; first | refine R.indexAddr rfl rfl (by omega) hY ?_ | refine callS rfl rfl (c32 _) ?_ | refine R.mv rfl ?_ | refine R.loadR rfl rfl ?_ | refine S.subI rfl rfl (by omega) ?_ | refine R.pickT rfl rfl ?_ | ((first | refine S.gtr rfl rfl ?_ ?_) <;> intro hlt <;> try (exfalso; omega))) | refine S.seq ?_ | refine S.region ?_ | refine S.condT rfl ?_ | refine RRun.skip ?_ | refine RRun.block ?_ | refine RRun.inBlock ?_)
        rw [show (((m + 1 : Nat) : Int) - 1) = ((m : Nat) : Int) by omega]
        exact S.keep [1, 5, 7, 8, 9, 10, 11] rfl (i1 rfl)
      | false =>
        repeat' (first | refine S.nilK ?_ | (refine S.op rfl ?_; first | refine R.indexAddr rfl rfl (by omega) hY ?_ | refine callS rfl rfl (c32 _) ?_ | refine R.mv rfl ?_ | refine R.loadR rfl rfl ?_ | refine S.subI rfl rfl (by omega) ?_ | refine R.pickT rfl rfl ?_ | ((first | refine S.gtr rfl rfl ?_ ?_) <;> intro hlt <;> try (exfalso; omega))) | refine S.seq ?_ | refine S.region ?_ | refine S.condF rfl ?_ | refine RRun.exit rfl ?_)
        exact S.keep [1, 5, 7, 8, 9, 10, 11] rfl (i2 rfl)
theorem rs_out {by' : List (Int × Bool)} (hb1 : by'.length ≤ 1000000) (hb2 : ∀ p ∈ by', Fits p.1) (l : List Row) (hl : l.length ≤ 1000) (h : AHeap) (ks : List RT) (Q : AV → AHeap → Prop)
    (hk : RRun Try.prog Try.f18 44 ks (Env.get [(5, rowsC (St.isort (ltR by') l) .ro)]) h Q) : ∀ (m i : Nat), i + m = l.length →
    RRun Try.prog Try.f18 44 (.inLoop r18l0 :: .inBlock 0 :: ks) (Env.get [(1, bysA by'), (5, rowsC (St.isort (ltR by') (l.take i)) .ro), (9, rowsA l), (10, i64 l.length), (11, i64 i)]) h Q := by
  intro m
  induction m with
  | zero =>
    intro i hi
    rw [List.take_of_length_le (by omega)]
    refine RRun.inLoop ?_
    repeat' (first | refine S.nilK ?_ | (refine S.op rfl ?_; first | ((first | refine S.lss rfl rfl ?_ ?_) <;> intro hlt <;> try (exfalso; omega))) | refine S.seq ?_ | refine S.region ?_ | refine S.condF rfl ?_ | refine RRun.exit rfl ?_)
    exact S.keep [5] rfl hk
  | succ m ih =>
    intro i hi
    have hie : i < l.length := by omega
    have h1 : (l.map fun r => [rowA r])[((i : Nat) : Int).toNat]? = some [rowA l[i]] := by simp [hie]
    have ht : l.take (i + 1) = l.take i ++ [l[i]] := by rw [List.take_add_one, List.getElem?_eq_getElem hie]; rfl
    have hih := ih (i + 1) (by omega)
    rw [ht, St.isort_snoc] at hih
    have hs := St.isort_sorted (ltR_sw by') (l.take i)
    have hal := St.isort_length (ltR by') (l.take i)
    have htl : (l.take i).length ≤ 1000 := by simp; omega
    generalize l[i] = x at h1 hih
    generalize St.isort (ltR by') (l.take i) = acc at hih hs hal ⊢
    have hlen : (acc.map fun r => [rowA r]).length = acc.length := by simp
    refine RRun.inLoop ?_
    repeat' (first | refine S.nilK ?_ | (refine S.op rfl ?_; first | refine R.indexAddr rfl rfl (by omega) h1 ?_ | refine R.mv rfl ?_ | refine R.loadR rfl rfl ?_ | refine R.len rfl ?_ | ((first | refine S.lss rfl rfl ?_ ?_) <;> intro hlt <;> try (exfalso; omega))) | refine S.seq ?_ | refine S.region ?_ | refine S.condT rfl ?_ | refine RRun.skip ?_ | refine RRun.block ?_)
    rw [hlen]
    refine RRun.loopIn (S.keep [1, 5, 7, 8, 9, 10, 11] rfl (rs_in hb1 hb2 l l.length i x acc (by omega) hs h _ _ (fun L1 L2 he hins => ?_) acc.length acc [] rfl (by simp) (fun y hy => by cases hy)))
    have hL : L1.length ≤ acc.length := by rw [he]; simp
    have et : (acc.map fun r => [rowA r]).take ((L1.length : Int)).toNat = L1.map fun r => [rowA r] := by rw [he]; simp
    have ed : (acc.map fun r => [rowA r]).drop ((L1.length : Int)).toNat = L2.map fun r => [rowA r] := by rw [he]; simp
    have hal2 : L1.length + L2.length = acc.length := by rw [he]; simp
    have h1L : (L1.map fun r => [rowA r]).length = L1.length := by simp
    have h2L : (L2.map fun r => [rowA r]).length = L2.length := by simp
    have hone2 : ∀ e ∈ (L2.map fun r => [rowA r]), ∀ a ∈ e, a.one = true := by
      intro e he a ha
      obtain ⟨r, _, rfl⟩ := List.mem_map.1 he
      rw [List.mem_singleton] at ha
      subst ha; rfl
    have hone3 : ∀ e ∈ ([[rowA x]] ++ L2.map fun r => [rowA r]), ∀ a ∈ e, a.one = true := by
      intro e he a ha
      rcases List.mem_append.1 he with he | he
      · exact row_one x e he a ha
      · exact hone2 e he a ha
    have efin : (L1.map fun r => [rowA r]) ++ ([[rowA x]] ++ L2.map fun r => [rowA r]) = (St.ins (ltR by') x acc).map fun r => [rowA r] := by rw [hins]; simp
    repeat' (first | ((show RChain _ (⟨(some 40), _, _, _⟩ :: _) _ _ _; refine Stop.h ?_)) | (refine S.op rfl ?_; first | refine S.sliceHM rfl rfl rfl (by omega) (by rw [hlen]; omega) (by decide) ?_ | refine S.sliceL rfl rfl (by omega) (by rw [hlen]; omega) (by decide) ?_ | refine R.mv rfl ?_ | refine R.buildSl rfl rfl rfl (by decide) ?_) | refine S.region ?_)
    refine ⟨?_⟩
    rw [et, ed]
    refine S.op rfl (R.appendV rfl (.sl [[rowA x]] _) rfl (.sl _ _) hone2 (by rw [h2L]; simp; omega) (by rw [h2L]; simp; omega) ?_)
    refine S.op rfl (R.appendV rfl (.sl _ _) rfl (.sl _ _) hone3 (by rw [h1L, List.length_append, h2L]; simp; omega) (by rw [h1L, List.length_append, h2L]; simp; omega) ?_)
    rw [efin]
    repeat' (first | refine S.nilK ?_ | (refine S.op rfl ?_; first | refine R.mv rfl ?_ | refine S.addI rfl rfl (by omega) ?_) | refine S.region ?_ | refine RRun.inBlock ?_)
    rw [show ((i : Int) + 1) = ((i + 1 : Nat) : Int) by omega]
    exact S.keep [1, 5, 9, 10, 11] rfl hih
theorem refSort_spec (l : List Row) (by' : List (Int × Bool)) (hl : l.length ≤ 1000) (hb1 : by'.length ≤ 1000000) (hb2 : ∀ p ∈ by', Fits p.1) (h : AHeap) :
    ACalls Try.prog 18 [rowsA l, bysA by'] h (fun x h' => x = rowsA (St.isort (ltR by') l) ∧ h' = h) := by
  obtain ⟨c', hc1, hc2⟩ := res18
  refine ACalls.weak (ACalls.enter Try.func18 hc1 Try.ntmps18 hc2 (Nat.le_of_ble_eq_true rfl) rfl ?_)
  have hlen : (l.map fun r => [rowA r]).length = l.length := by simp
  repeat' (first | refine S.nilK ?_ | (refine S.op rfl ?_; first | refine R.mv rfl ?_ | refine R.len rfl ?_) | refine S.seq ?_ | refine S.region ?_ | refine RRun.block ?_)
  rw [hlen]
  refine RRun.loopIn (S.keep [1, 5, 9, 10, 11] rfl (RRun.envs (.cons 1 (.refl _) (.cons 5 (.nilSl 1 (c := .ro) trivial) (.cons 9 (.refl _) (.cons 10 (.refl _) (.cons 11 (.refl _) .nil))))) (rs_out hb1 hb2 l hl h _ _ ?_ l.length 0 (by omega))))
  repeat' (first | refine S.nilK ?_ | (refine S.op rfl ?_; first | refine R.mv rfl ?_) | refine S.seq ?_ | refine S.region ?_)
  apply S.ret rr18
  case hx => repeat (first | exact ResAt.nil | apply ResAt.tmp rfl)
  exact ⟨_, h, .refl _, (by repeat (first | exact AHeap.le.refl _)), rfl, rfl⟩
end Go.Proofs.Ythadifboeggnpaa

namespace Go.Proofs.Ythadifboeggnpaa
open Go.Av
def limF (l : List Row) (n : Int) : List Row := if n < 0 ∨ (l.length : Int) < n then l else l.take n.toNat
def r19l0 : RCode :=
  (.seq (.region [
    ⟨(some 23), none, .act, .bin .lss (.tmp 22) (.tmp 21)⟩])
  (.seq (.cond (.tmp 23)
   .skip
   (.exit 0))
  (.seq (.block 1
   (.seq (.region [
     ⟨(some 24), none, .act, .indexAddr 1 (.tmp 20) (.tmp 22)⟩,
     ⟨(some 25), none, .act, .load false 1 (.tmp 24)⟩,
     ⟨(some 7), none, .act, .mv (.tmp 25)⟩])
   (.region [
     ⟨(some 26), none, .act, .mv (.tmp 5)⟩,
     ⟨(some 27), none, .act, .mv (.tmp 7)⟩,
     ⟨(some 28), none, .act, .call 27 [(.tmp 27)]⟩,
     ⟨(some 29), none, .act, .buildSl 1 [(.slice none 0 0)] 1 [(0, (.tmp 28))]⟩,
     ⟨(some 30), none, .act, .append 1 24 [(.slice none 0 0)] (.tmp 26) (.tmp 29)⟩,
     ⟨(some 5), none, .act, .mv (.tmp 30)⟩])))
  (.region [
    ⟨(some 31), none, .act, .bin .add (.tmp 22) (.const (.int .i64 1))⟩,
    ⟨(some 22), none, .act, .mv (.tmp 31)⟩]))))
def r19 : RCode :=
  (.seq (.region [
    ⟨(some 4), none, .act, .mv (.const (.slice none 0 0))⟩])
  (.seq (.seq (.region [
    ⟨(some 8), none, .act, .mv (.tmp 1)⟩,
    ⟨(some 9), none, .act, .bin .lss (.tmp 8) (.const (.int .i64 0))⟩,
    ⟨(some 10), none, .act, .mv (.tmp 9)⟩,
    ⟨(some 11), (some (10, false)), .act, .mv (.tmp 1)⟩,
    ⟨(some 12), (some (10, false)), .act, .mv (.tmp 0)⟩,
    ⟨(some 13), (some (10, false)), .act, .len (.tmp 12)⟩,
    ⟨(some 14), (some (10, false)), .act, .bin .gtr (.tmp 11) (.tmp 13)⟩,
    ⟨(some 15), none, .act, .pick (.tmp 10) (.const (.bool true)) (.tmp 14)⟩])
  (.cond (.tmp 15)
   (.region [
     ⟨(some 16), none, .act, .mv (.tmp 0)⟩,
     ⟨(some 17), none, .act, .len (.tmp 16)⟩,
     ⟨(some 1), none, .act, .mv (.tmp 17)⟩])
   .skip))
  (.seq (.region [
    ⟨(some 5), none, .act, .mv (.const (.slice none 0 0))⟩])
  (.seq (.seq (.region [
    ⟨(some 18), none, .act, .mv (.tmp 0)⟩,
    ⟨(some 19), none, .act, .mv (.tmp 1)⟩,
    ⟨(some 20), none, .act, .sliceSl 1 (.tmp 18) none (some (.tmp 19)) none⟩,
    ⟨(some 21), none, .act, .len (.tmp 20)⟩,
    ⟨(some 22), none, .act, .mv (.const (.int .i64 0))⟩])
  (.block 0
   (.loop r19l0)))
  (.seq (.region [
    ⟨(some 32), none, .act, .mv (.tmp 5)⟩,
    ⟨(some 4), none, .act, .mv (.tmp 32)⟩])
  .ret)))))
theorem res19 : ∃ c, Try.f19.body = some c ∧ resCode Try.prog 33 c = some r19 := ⟨_, rfl, by kernel_rfl⟩
theorem rr19 : resRes Try.prog Try.f19.results.toList = some [.tmp 4] := by kernel_rfl
theorem lim_loop (l : List Row) (hl : l.length ≤ 1000) (hr : ∀ r ∈ l, r.length ≤ 1000) (h₀ : AHeap) (k : List RT) (Q : AV → AHeap → Prop)
    (hk : ∀ c h, Grow h₀ h c → RRun Try.prog Try.f19 33 k (Env.get [(5, rowsC l c)]) h Q) : ∀ (m i : Nat) (c : Cap) (h : AHeap), i + m = l.length → Grow h₀ h c →
    RRun Try.prog Try.f19 33 (.inLoop r19l0 :: .inBlock 0 :: k) (Env.get [(5, rowsC (l.take i) c), (20, rowsA l), (21, i64 l.length), (22, i64 i)]) h Q := by
  intro m
  induction m with
  | zero =>
    intro i c h hi hg
    rw [List.take_of_length_le (by omega)]
    refine RRun.inLoop ?_
    repeat' (first | refine S.nilK ?_ | (refine S.op rfl ?_; first | ((first | refine S.lss rfl rfl ?_ ?_) <;> intro hlt <;> try (exfalso; omega))) | refine S.seq ?_ | refine S.region ?_ | refine S.condF rfl ?_ | refine RRun.exit rfl ?_)
    exact S.keep [5] rfl (hk c h hg)
  | succ m ih =>
    intro i c h hi hg
    have hie : i < l.length := by omega
    have h1 : (l.map fun r => [rowA r])[((i : Nat) : Int).toNat]? = some [rowA l[i]] := by simp [hie]
    have c27 := fun h => clone_spec l[i] (Nat.le_trans (hr _ (List.getElem_mem hie)) (by decide)) h
    have ht : l.take (i + 1) = l.take i ++ [l[i]] := by rw [List.take_add_one, List.getElem?_eq_getElem hie]; rfl
    have hih := fun c h => ih (i + 1) c h (by omega)
    rw [ht] at hih
    have htl : (l.take i).length ≤ 1000 := by simp; omega
    generalize l[i] = r at h1 c27 hih
    generalize l.take i = acc at htl hih ⊢
    have hlen : (acc.map fun r => [rowA r]).length = acc.length := by simp
    refine RRun.inLoop ?_
    repeat' (first | refine S.nilK ?_ | (refine S.op rfl ?_; first | refine R.indexAddr rfl rfl (by omega) h1 ?_ | refine callS rfl rfl (c27 _) ?_ | refine R.mv rfl ?_ | refine R.loadR rfl rfl ?_ | refine R.buildSl rfl rfl rfl (by decide) ?_ | ((first | refine S.lss rfl rfl ?_ ?_) <;> intro hlt <;> try (exfalso; omega))) | refine S.seq ?_ | refine S.region ?_ | refine S.condT rfl ?_ | refine RRun.skip ?_ | refine RRun.block ?_)
    refine S.op rfl (S.appendG rfl hg rfl (.sl _ _) rfl (.sl [[rowA r]] _) (row_one r) (by rw [hlen]; simp; omega) (by rw [hlen]; simp; omega) (fun c' h' hg' hbox => ?_))
    repeat' (first | refine S.nilK ?_ | (refine S.op rfl ?_; first | refine R.mv rfl ?_ | refine S.addI rfl rfl (by omega) ?_) | refine S.region ?_ | refine RRun.inBlock ?_)
    rw [rows_snoc, show ((i : Int) + 1) = ((i + 1 : Nat) : Int) by omega]
    exact S.keep [5, 20, 21, 22] rfl (hih _ _ hg')
theorem lim_spec (l : List Row) (n : Int) (hl : l.length ≤ 1000) (hr : ∀ r ∈ l, r.length ≤ 1000) (h : AHeap) :
    ACalls Try.prog 19 [rowsA l, i64 n] h (fun x h' => x = rowsA (limF l n) ∧ h' = h) := by
  obtain ⟨c', hc1, hc2⟩ := res19
  refine ACalls.weak (ACalls.enter Try.func19 hc1 Try.ntmps19 hc2 (Nat.le_of_ble_eq_true rfl) rfl ?_)
  have hlen : (l.map fun r => [rowA r]).length = l.length := by simp
  have fin : ∀ (l' : List Row), l'.length ≤ 1000 → (∀ r ∈ l', r.length ≤ 1000) → limF l n = l' → ∀ k : List RT, k = [.code (.seq (.region [⟨some 32, none, .act, .mv (.tmp 5)⟩, ⟨some 4, none, .act, .mv (.tmp 32)⟩]) .ret)] →
      RRun Try.prog Try.f19 33 (.inLoop r19l0 :: .inBlock 0 :: k) (Env.get [(5, .v (.slice none 0 0)), (20, rowsA l'), (21, i64 l'.length), (22, i64 0)]) h (Weak (fun x h' => x = rowsA (limF l n) ∧ h' = h)) := by
    intro l' hl' hr' he k hkk
    subst hkk
    refine RRun.envs (.cons 5 (.nilSl 1 (c := .full) trivial) (.cons 20 (.refl _) (.cons 21 (.refl _) (.cons 22 (.refl _) .nil)))) (lim_loop l' hl' hr' h _ _ (fun c h1 hg => ?_) l'.length 0 .full h (by omega) (Grow.start h))
    repeat' (first | refine S.nilK ?_ | (refine S.op rfl ?_; first | refine R.mv rfl ?_) | refine S.seq ?_ | refine S.region ?_)
    apply S.ret rr19
    case hx => repeat (first | exact ResAt.nil | apply ResAt.tmp rfl)
    exact ⟨_, h, .toRo _ _ _, hg.le, by rw [he], rfl⟩
  unfold limF at fin
  by_cases h0 : n < 0 ∨ (l.length : Int) < n
  · rw [if_pos h0] at fin
    have et : (l.map fun r => [rowA r]).take ((l.length : Int)).toNat = l.map fun r => [rowA r] := List.take_of_length_le (by simp)
    by_cases h2 : n < 0
    · repeat' (first | ((show RRun _ _ _ (.code (.loop r19l0) :: _) _ _ _; refine Stop.h ?_)) | refine S.nilK ?_ | (refine S.op rfl ?_; first | refine S.sliceH rfl rfl (by omega) (by rw [hlen]; omega) (by decide) ?_ | refine R.mv rfl ?_ | refine R.pickT rfl rfl ?_ | refine R.len rfl ?_ | ((first | refine S.lss rfl rfl ?_ ?_) <;> intro hlt <;> try (exfalso; omega))) | refine S.skip rfl ?_ | refine S.seq ?_ | refine S.region ?_ | refine S.condT rfl ?_ | refine RRun.block ?_)
      refine ⟨?_⟩
      rw [hlen, et, hlen]
      refine RRun.loopIn (S.keep [5, 20, 21, 22] rfl (by unfold limF; rw [if_pos h0]; exact fin l hl hr rfl _ rfl))
    · repeat' (first | ((show RRun _ _ _ (.code (.loop r19l0) :: _) _ _ _; refine Stop.h ?_)) | refine S.nilK ?_ | (refine S.op rfl ?_; first | refine S.sliceH rfl rfl (by omega) (by rw [hlen]; omega) (by decide) ?_ | refine R.mv rfl ?_ | refine R.pickF rfl rfl ?_ | refine R.len rfl ?_ | ((first | refine S.lss rfl rfl ?_ ?_ | refine S.gtr rfl rfl ?_ ?_) <;> intro hlt <;> try (exfalso; omega))) | refine S.seq ?_ | refine S.region ?_ | refine S.condT rfl ?_ | refine RRun.block ?_)
      refine ⟨?_⟩
      rw [hlen, et, hlen]
      refine RRun.loopIn (S.keep [5, 20, 21, 22] rfl (by unfold limF; rw [if_pos h0]; exact fin l hl hr rfl _ rfl))
  · rw [if_neg h0] at fin
    have et : (l.map fun r => [rowA r]).take n.toNat = (l.take n.toNat).map fun r => [rowA r] := by rw [List.map_take]
    have hlen2 : ((l.take n.toNat).map fun r => [rowA r]).length = (l.take n.toNat).length := by simp
    repeat' (first | ((show RRun _ _ _ (.code (.loop r19l0) :: _) _ _ _; refine Stop.h ?_)) | refine S.nilK ?_ | (refine S.op rfl ?_; first | refine S.sliceH rfl rfl (by omega) (by rw [hlen]; omega) (by decide) ?_ | refine R.mv rfl ?_ | refine R.pickF rfl rfl ?_ | refine R.len rfl ?_ | ((first | refine S.lss rfl rfl ?_ ?_ | refine S.gtr rfl rfl ?_ ?_) <;> intro hlt <;> try (exfalso; omega))) | refine S.seq ?_ | refine S.region ?_ | refine S.condF rfl ?_ | refine RRun.skip ?_ | refine RRun.block ?_)
    refine ⟨?_⟩
    rw [et, hlen2]
    refine RRun.loopIn (S.keep [5, 20, 21, 22] rfl (by unfold limF; rw [if_neg h0]; exact fin (l.take n.toNat) (by simp; omega) (fun r hr' => hr r (List.mem_of_mem_take hr')) rfl _ rfl))
def r20 : RCode :=
  (.seq (.region [
    ⟨(some 4), none, .act, .mv (.const (.slice none 0 0))⟩])
  (.seq (.seq (.region [
    ⟨(some 5), none, .act, .mv (.tmp 1)⟩,
    ⟨(some 6), none, .act, .bin .geq (.tmp 5) (.const (.int .i64 0))⟩,
    ⟨(some 7), none, .act, .mv (.tmp 6)⟩,
    ⟨(some 8), (some (7, true)), .act, .mv (.tmp 1)⟩,
    ⟨(some 9), (some (7, true)), .act, .mv (.tmp 0)⟩,
    ⟨(some 10), (some (7, true)), .act, .len (.tmp 9)⟩,
    ⟨(some 11), (some (7, true)), .act, .bin .lss (.tmp 8) (.tmp 10)⟩,
    ⟨(some 12), none, .act, .pick (.tmp 7) (.tmp 11) (.const (.bool false))⟩])
  (.cond (.tmp 12)
   (.seq (.region [
     ⟨(some 13), none, .act, .mv (.tmp 0)⟩,
     ⟨(some 14), none, .act, .mv (.tmp 1)⟩,
     ⟨(some 15), none, .act, .sliceSl 1 (.tmp 13) none (some (.tmp 14)) none⟩,
     ⟨(some 4), none, .act, .mv (.tmp 15)⟩])
   .ret)
   .skip))
  (.seq (.region [
    ⟨(some 16), none, .act, .mv (.tmp 0)⟩,
    ⟨(some 4), none, .act, .mv (.tmp 16)⟩])
  .ret)))
theorem res20 : ∃ c, Try.f20.body = some c ∧ resCode Try.prog 17 c = some r20 := ⟨_, rfl, by kernel_rfl⟩
theorem rr20 : resRes Try.prog Try.f20.results.toList = some [.tmp 4] := by kernel_rfl
theorem refLim_spec (l : List Row) (n : Int) (hl : l.length ≤ 1000) (h : AHeap) :
    ACalls Try.prog 20 [rowsA l, i64 n] h (fun x h' => x = rowsA (limF l n) ∧ h' = h) := by
  obtain ⟨c', hc1, hc2⟩ := res20
  refine ACalls.weak (ACalls.enter Try.func20 hc1 Try.ntmps20 hc2 (Nat.le_of_ble_eq_true rfl) rfl ?_)
  have hlen : (l.map fun r => [rowA r]).length = l.length := by simp
  have et : (l.map fun r => [rowA r]).take n.toNat = (l.take n.toNat).map fun r => [rowA r] := by rw [List.map_take]
  unfold limF
  repeat' (first | refine S.nilK ?_ | (refine S.op rfl ?_; first | refine S.sliceH rfl rfl (by omega) (by rw [hlen]; omega) (by decide) ?_ | refine R.mv rfl ?_ | refine R.pickT rfl rfl ?_ | refine R.pickF rfl rfl ?_ | refine R.len rfl ?_ | ((first | refine S.lss rfl rfl ?_ ?_ | refine S.geq rfl rfl ?_ ?_) <;> intro hlt <;> try (exfalso; omega))) | refine S.skip rfl ?_ | refine S.seq ?_ | refine S.region ?_ | refine S.condT rfl ?_ | refine S.condF rfl ?_ | refine RRun.skip ?_)
  all_goals
    apply S.ret rr20
    case hx => repeat (first | exact ResAt.nil | apply ResAt.tmp rfl)
    refine ⟨_, h, .refl _, (by repeat (first | exact AHeap.le.refl _)), ?_, rfl⟩
    by_cases hc : n < 0 ∨ (l.length : Int) < n
    · rw [if_pos hc]
      first
      | rfl
      | (exfalso; omega)
    · rw [if_neg hc]
      first
      | exact congrArg (fun x => AV.sl 1 x .ro) et
      | (rw [List.take_of_length_le (by omega)]; rfl)
end Go.Proofs.Ythadifboeggnpaa

namespace Go.Proofs.Ythadifboeggnpaa
open Go.Av
def r6 : RCode :=
  (.seq (.region [
    ⟨(some 6), none, .act, .mv (.const (.bool false))⟩])
  (.seq (.seq (.region [
    ⟨(some 7), none, .act, .call 7 []⟩,
    ⟨(some 8), none, .act, .un .not (.tmp 7)⟩])
  (.cond (.tmp 8)
   (.seq (.region [
     ⟨(some 6), none, .act, .mv (.const (.bool false))⟩])
   .ret)
   .skip))
  (.seq (.seq (.region [
    ⟨(some 9), none, .act, .mv (.tmp 0)⟩,
    ⟨(some 10), none, .act, .call 8 [(.tmp 9)]⟩,
    ⟨(some 11), none, .act, .un .not (.tmp 10)⟩,
    ⟨(some 12), none, .act, .mv (.tmp 11)⟩,
    ⟨(some 13), (some (12, false)), .act, .mv (.tmp 1)⟩,
    ⟨(some 14), (some (12, false)), .act, .len (.tmp 13)⟩,
    ⟨(some 15), (some (12, false)), .act, .bin .gtr (.tmp 14) (.const (.int .i64 6))⟩,
    ⟨(some 16), none, .act, .pick (.tmp 12) (.const (.bool true)) (.tmp 15)⟩])
  (.cond (.tmp 16)
   (.seq (.region [
     ⟨(some 6), none, .act, .mv (.const (.bool true))⟩])
   .ret)
   .skip))
  (.seq (.region [
    ⟨(some 17), none, .act, .mv (.tmp 0)⟩,
    ⟨(some 18), none, .act, .mv (.tmp 1)⟩,
    ⟨(some 19), none, .act, .call 15 [(.tmp 17), (.tmp 18)]⟩,
    ⟨(some 20), none, .act, .mv (.tmp 0)⟩,
    ⟨(some 21), none, .act, .mv (.tmp 1)⟩,
    ⟨(some 22), none, .act, .call 18 [(.tmp 20), (.tmp 21)]⟩,
    ⟨(some 23), none, .act, .call 14 [(.tmp 19), (.tmp 22)]⟩,
    ⟨(some 24), none, .act, .mv (.tmp 23)⟩,
    ⟨(some 25), (some (24, true)), .act, .mv (.tmp 0)⟩,
    ⟨(some 26), (some (24, true)), .act, .mv (.tmp 2)⟩,
    ⟨(some 27), (some (24, true)), .act, .call 19 [(.tmp 25), (.tmp 26)]⟩,
    ⟨(some 28), (some (24, true)), .act, .mv (.tmp 0)⟩,
    ⟨(some 29), (some (24, true)), .act, .mv (.tmp 2)⟩,
    ⟨(some 30), (some (24, true)), .act, .call 20 [(.tmp 28), (.tmp 29)]⟩,
    ⟨(some 31), (some (24, true)), .act, .call 14 [(.tmp 27), (.tmp 30)]⟩,
    ⟨(some 32), none, .act, .pick (.tmp 24) (.tmp 31) (.const (.bool false))⟩,
    ⟨(some 6), none, .act, .mv (.tmp 32)⟩])
  .ret))))
theorem res6 : ∃ c, Try.f6.body = some c ∧ resCode Try.prog 33 c = some r6 := ⟨_, rfl, by kernel_rfl⟩
theorem rr6 : resRes Try.prog Try.f6.results.toList = some [.tmp 6] := by kernel_rfl
theorem relSorts_spec (l : List Row) (by' : List (Int × Bool)) (n : Int) (hl : l.length ≤ 9223372036854775807) (hr : ∀ r ∈ l, r.length ≤ 9223372036854775807 ∧ ∀ v ∈ r, v.ok) (hb : by'.length ≤ 9223372036854775807) (hbo : ∀ p ∈ by', Fits p.1) (h : AHeap) :
    ACalls Try.prog 6 [rowsA l, bysA by', i64 n] h (fun x h' => x = bl true ∧ h' = h) := by
  have c8 := fun h => rows_spec l hl (fun r hr' => (hr r hr').1) h
  have hlen : (by'.map fun p => [i64 p.1, bl p.2]).length = by'.length := by simp
  obtain ⟨c', hc1, hc2⟩ := res6
  refine ACalls.weak (ACalls.enter Try.func6 hc1 Try.ntmps6 hc2 (Nat.le_of_ble_eq_true rfl) rfl ?_)
  cases h1 : fewRows l with
  | false =>
    rw [h1] at c8
    repeat' (first | refine S.nilK ?_ | (refine S.op rfl ?_; first | refine callS rfl rfl (awake_spec _) ?_ | refine callS rfl rfl (c8 _) ?_ | refine R.mv rfl ?_ | refine R.pickT rfl rfl ?_ | refine R.not rfl ?_) | refine S.skip rfl ?_ | refine S.seq ?_ | refine S.region ?_ | refine S.condT rfl ?_ | refine S.condF rfl ?_ | refine RRun.skip ?_)
    apply S.ret rr6
    case hx => repeat (first | exact ResAt.nil | apply ResAt.tmp rfl)
    exact ⟨_, h, .refl _, (by repeat (first | exact AHeap.le.refl _)), rfl, rfl⟩
  | true =>
  rw [h1] at c8
  by_cases h2 : 6 < by'.length
  · repeat' (first | refine S.nilK ?_ | (refine S.op rfl ?_; first | refine callS rfl rfl (awake_spec _) ?_ | refine callS rfl rfl (c8 _) ?_ | refine R.mv rfl ?_ | refine R.pickF rfl rfl ?_ | refine R.len rfl ?_ | refine R.not rfl ?_ | ((first | refine S.gtr rfl rfl ?_ ?_) <;> intro hlt <;> try (exfalso; omega))) | refine S.seq ?_ | refine S.region ?_ | refine S.condT rfl ?_ | refine S.condF rfl ?_ | refine RRun.skip ?_)
    apply S.ret rr6
    case hx => repeat (first | exact ResAt.nil | apply ResAt.tmp rfl)
    exact ⟨_, h, .refl _, (by repeat (first | exact AHeap.le.refl _)), rfl, rfl⟩
  simp only [fewRows, few, Bool.and_eq_true, decide_eq_true_eq, List.all_eq_true] at h1
  have hrl : ∀ r ∈ l, r.length ≤ 1000 := fun r hr' => by have := (h1.1 r hr').2; omega
  have c15 := fun h => sort_spec l by' (by omega) hrl (by omega) hbo h
  have c18 := fun h => refSort_spec l by' (by omega) (by omega) hbo h
  have c19 := fun h => lim_spec l n (by omega) hrl h
  have c20 := fun h => refLim_spec l n (by omega) h
  have c14 := fun h => sameRows_spec (St.isort (ltR by') l) (by rw [St.isort_length]; omega) (fun r hr' => by have := hrl r ((St.isort_perm _ l).mem_iff.1 hr'); omega) h
  have hlm : ∀ r ∈ limF l n, r ∈ l := fun r hr' => by
    unfold limF at hr'
    split at hr'
    · exact hr'
    · exact List.mem_of_mem_take hr'
  have hll : (limF l n).length ≤ l.length := by
    unfold limF
    split
    · exact Nat.le_refl _
    · simp; omega
  have c14l := fun h => sameRows_spec (limF l n) (by omega) (fun r hr' => by have := hrl r (hlm r hr'); omega) h
  repeat' (first | refine S.nilK ?_ | (refine S.op rfl ?_; first | refine callS rfl rfl (awake_spec _) ?_ | refine callS rfl rfl (c8 _) ?_ | refine callS rfl rfl (c15 _) ?_ | refine callS rfl rfl (c18 _) ?_ | refine callS rfl rfl (c19 _) ?_ | refine callS rfl rfl (c20 _) ?_ | refine callS rfl rfl (c14 _) ?_ | refine callS rfl rfl (c14l _) ?_ | refine R.mv rfl ?_ | refine R.pickT rfl rfl ?_ | refine R.pickF rfl rfl ?_ | refine R.len rfl ?_ | refine R.not rfl ?_ | ((first | refine S.gtr rfl rfl ?_ ?_) <;> intro hlt <;> try (exfalso; omega))) | refine S.seq ?_ | refine S.region ?_ | refine S.condF rfl ?_ | refine RRun.skip ?_)
  apply S.ret rr6
  case hx => repeat (first | exact ResAt.nil | apply ResAt.tmp rfl)
  exact ⟨_, h, .refl _, (by repeat (first | exact AHeap.le.refl _)), rfl, rfl⟩
end Go.Proofs.Ythadifboeggnpaa
