/-
  sorting rows only puts them in another order, and none behind a greater one: for every input
-/
import Derived.Test.YthadifboeggnpaaOP27
set_option linter.unusedVariables false
set_option linter.unusedSimpArgs false
namespace Go.Proofs.Ythadifboeggnpaa
open Go.Av
abbrev valsV (v : Val) : List Value := [.int .i64 v.kind, .int .i64 v.n, .string ⟨v.s.toArray⟩]
def vEq (v w : Val) : Bool := (aggEq [(0, .int), (1, .int), (2, .str)] (valsV v) (valsV w)).getD false
theorem vEq_some (v w : Val) : aggEq [(0, .int), (1, .int), (2, .str)] (valsV v) (valsV w) = some (vEq v w) := by
  have : ∃ b, aggEq [(0, .int), (1, .int), (2, .str)] (valsV v) (valsV w) = some b := by
    cases h1 : v.kind == w.kind <;> cases h2 : v.n == w.n <;> cases h3 : v.s == w.s <;> simp [aggEq, atomEq, h1, h2, h3]
  obtain ⟨b, hb⟩ := this
  rw [vEq, hb]; rfl
def eqL : Row → Row → Bool
  | [], [] => true
  | v :: x, w :: y => vEq v w && eqL x y
  | [], _ :: _ => false
  | _ :: _, [] => false
theorem eqL_len : ∀ {x y : Row}, x.length ≠ y.length → eqL x y = false
  | [], [], h => absurd rfl h
  | v :: x, w :: y, h => by rw [eqL, eqL_len (fun e => h (by simp [e]))]; simp
  | [], _ :: _, _ => rfl
  | _ :: _, [], _ => rfl
theorem eqL_drop {x y : Row} {i : Nat} (hx : i < x.length) (hy : i < y.length) : eqL (x.drop i) (y.drop i) = (vEq x[i] y[i] && eqL (x.drop (i + 1)) (y.drop (i + 1))) := by
  rw [List.drop_eq_getElem_cons hx, List.drop_eq_getElem_cons hy, eqL]
theorem eqRow_loop (x y : Row) (hl : x.length ≤ 1000) (hxy : x.length = y.length) (h : AHeap) (k : List RT) (Q : AV → AHeap → Prop)
    (hk : eqL x y = true → RRun Try.prog Try.f16 26 k (Env.get []) h Q) (hf : eqL x y = false → ∀ h', h.le h' → Q (bl false) h') : ∀ (m i : Nat), i + m = x.length → eqL x y = eqL (x.drop i) (y.drop i) →
    RRun Try.prog Try.f16 26 (.inLoop r16l0 :: .inBlock 0 :: k) (Env.get [(0, rowA x), (1, rowA y), (12, i64 x.length), (13, i64 i)]) h Q := by
  intro m
  induction m with
  | zero =>
    intro i hi ht
    rw [List.drop_of_length_le (by omega), List.drop_of_length_le (by omega)] at ht
    refine RRun.inLoop ?_
    repeat' (first | refine S.nilK ?_ | (refine S.op rfl ?_; first | ((first | refine S.lss rfl rfl ?_ ?_) <;> intro hlt <;> try (exfalso; omega))) | refine S.seq ?_ | refine S.region ?_ | refine S.condF rfl ?_ | refine RRun.exit rfl ?_)
    exact S.keep [] rfl (hk ht)
  | succ m ih =>
    intro i hi ht
    have hie : i < x.length := by omega
    have hie' : i < y.length := by omega
    have h1 : (x.map Val.cells)[((i : Nat) : Int).toNat]? = some [i64 x[i].kind, i64 x[i].n, str x[i].s] := by simp [hie]; rfl
    have h2 : (y.map Val.cells)[((i : Nat) : Int).toNat]? = some [i64 y[i].kind, i64 y[i].n, str y[i].s] := by simp [hie']; rfl
    have hag := vEq_some x[i] y[i]
    have hyl : (y.map Val.cells).length = y.length := by simp
    rw [eqL_drop hie hie'] at ht
    refine RRun.inLoop ?_
    generalize x[i] = v at h1 hag ht
    generalize y[i] = w at h2 hag ht
    cases hv : vEq v w with
    | true =>
      rw [hv] at hag ht
      rw [Bool.true_and] at ht
      repeat' (first | refine S.nilK ?_ | (refine S.op rfl ?_; first | refine R.indexAddr rfl rfl (by omega) h1 ?_ | refine R.indexAddr rfl rfl (by omega) h2 ?_ | refine R.eqAgg (xs := valsV v) (ys := valsV w) rfl rfl hag ?_ | refine R.mv rfl ?_ | refine R.loadR rfl rfl ?_ | refine S.addI rfl rfl (by omega) ?_ | ((first | refine S.lss rfl rfl ?_ ?_) <;> intro hlt <;> try (exfalso; omega))) | refine S.seq ?_ | refine S.region ?_ | refine S.condT rfl ?_ | refine S.condF rfl ?_ | refine RRun.skip ?_ | refine RRun.block ?_ | refine RRun.inBlock ?_)
      rw [show ((i : Int) + 1) = ((i + 1 : Nat) : Int) by omega]
      exact S.keep [0, 1, 12, 13] rfl (ih (i + 1) (by omega) ht)
    | false =>
      rw [hv] at hag ht
      rw [Bool.false_and] at ht
      repeat' (first | refine S.nilK ?_ | (refine S.op rfl ?_; first | refine R.indexAddr rfl rfl (by omega) h1 ?_ | refine R.indexAddr rfl rfl (by omega) h2 ?_ | refine R.eqAgg (xs := valsV v) (ys := valsV w) rfl rfl hag ?_ | refine R.mv rfl ?_ | refine R.loadR rfl rfl ?_ | ((first | refine S.lss rfl rfl ?_ ?_) <;> intro hlt <;> try (exfalso; omega))) | refine S.seq ?_ | refine S.region ?_ | refine S.condT rfl ?_ | refine RRun.skip ?_ | refine RRun.block ?_)
      apply S.ret rr16
      case hx => repeat (first | exact ResAt.nil | apply ResAt.tmp rfl)
      exact hf ht _ (by repeat (first | exact AHeap.le.refl _))
theorem eqRow_spec (x y : Row) (hl : x.length ≤ 1000) (hl2 : y.length ≤ 1000) (h : AHeap) : ACalls Try.prog 16 [rowA x, rowA y] h (fun z h' => z = bl (eqL x y) ∧ h' = h) := by
  obtain ⟨c', hc1, hc2⟩ := res16
  refine ACalls.weak (ACalls.enter Try.func16 hc1 Try.ntmps16 hc2 (Nat.le_of_ble_eq_true rfl) rfl ?_)
  have hlen : (x.map Val.cells).length = x.length := by simp
  have hlen2 : (y.map Val.cells).length = y.length := by simp
  by_cases hxy : x.length = y.length
  · repeat' (first | ((show RRun _ _ _ (.code (.loop r16l0) :: _) _ _ _; refine Stop.h ?_)) | refine S.nilK ?_ | (refine S.op rfl ?_; first | refine R.mv rfl ?_ | refine R.len rfl ?_ | ((first | refine S.eqInt rfl rfl ?_ ?_) <;> intro hlt <;> try (exfalso; omega))) | refine S.seq ?_ | refine S.region ?_ | refine S.condF rfl ?_ | refine RRun.skip ?_ | refine RRun.block ?_)
    refine ⟨?_⟩
    rw [hlen]
    refine RRun.loopIn (S.keep [0, 1, 12, 13] rfl (eqRow_loop x y hl hxy h _ _ (fun he => ?_) (fun he h' hle => ⟨_, h, .refl _, hle, by rw [he], rfl⟩) x.length 0 (by omega) rfl))
    repeat' (first | refine S.nilK ?_ | (refine S.op rfl ?_; first | refine R.mv rfl ?_) | refine S.seq ?_ | refine S.region ?_)
    apply S.ret rr16
    case hx => repeat (first | exact ResAt.nil | apply ResAt.tmp rfl)
    exact ⟨_, h, .refl _, (by repeat (first | exact AHeap.le.refl _)), by rw [he]; rfl, rfl⟩
  · repeat' (first | refine S.nilK ?_ | (refine S.op rfl ?_; first | refine R.mv rfl ?_ | refine R.len rfl ?_ | ((first | refine S.eqInt rfl rfl ?_ ?_) <;> intro hlt <;> try (exfalso; omega))) | refine S.seq ?_ | refine S.region ?_ | refine S.condT rfl ?_)
    apply S.ret rr16
    case hx => repeat (first | exact ResAt.nil | apply ResAt.tmp rfl)
    exact ⟨_, h, .refl _, (by repeat (first | exact AHeap.le.refl _)), by rw [eqL_len hxy]; rfl, rfl⟩
def r5l1 : RCode :=
  (.seq (.region [
    ⟨(some 36), none, .act, .bin .lss (.tmp 35) (.tmp 34)⟩])
  (.seq (.cond (.tmp 36)
   .skip
   (.exit 2))
  (.seq (.block 3
   (.seq (.region [
     ⟨(some 37), none, .act, .mv (.tmp 35)⟩,
     ⟨(some 10), none, .act, .mv (.tmp 37)⟩])
   (.seq (.seq (.region [
     ⟨(some 38), none, .act, .mv (.tmp 0)⟩,
     ⟨(some 39), none, .act, .mv (.tmp 10)⟩,
     ⟨(some 40), none, .act, .indexAddr 1 (.tmp 38) (.tmp 39)⟩,
     ⟨(some 41), none, .act, .load false 1 (.tmp 40)⟩,
     ⟨(some 42), none, .act, .mv (.tmp 7)⟩,
     ⟨(some 43), none, .act, .call 16 [(.tmp 41), (.tmp 42)]⟩])
   (.cond (.tmp 43)
    (.region [
      ⟨(some 44), none, .act, .mv (.tmp 8)⟩,
      ⟨(some 45), none, .act, .bin .add (.tmp 44) (.const (.int .i64 1))⟩,
      ⟨(some 8), none, .act, .mv (.tmp 45)⟩])
    .skip))
   (.seq (.region [
     ⟨(some 46), none, .act, .mv (.tmp 5)⟩,
     ⟨(some 47), none, .act, .mv (.tmp 10)⟩,
     ⟨(some 48), none, .act, .indexAddr 1 (.tmp 46) (.tmp 47)⟩,
     ⟨(some 49), none, .act, .load false 1 (.tmp 48)⟩,
     ⟨(some 50), none, .act, .mv (.tmp 7)⟩,
     ⟨(some 51), none, .act, .call 16 [(.tmp 49), (.tmp 50)]⟩])
   (.cond (.tmp 51)
    (.region [
      ⟨(some 52), none, .act, .mv (.tmp 9)⟩,
      ⟨(some 53), none, .act, .bin .add (.tmp 52) (.const (.int .i64 1))⟩,
      ⟨(some 9), none, .act, .mv (.tmp 53)⟩])
    .skip)))))
  (.region [
    ⟨(some 54), none, .act, .bin .add (.tmp 35) (.const (.int .i64 1))⟩,
    ⟨(some 35), none, .act, .mv (.tmp 54)⟩]))))
def r5l0 : RCode :=
  (.seq (.region [
    ⟨(some 30), none, .act, .bin .lss (.tmp 29) (.tmp 28)⟩])
  (.seq (.cond (.tmp 30)
   .skip
   (.exit 0))
  (.seq (.block 1
   (.seq (.region [
     ⟨(some 31), none, .act, .indexAddr 1 (.tmp 27) (.tmp 29)⟩,
     ⟨(some 32), none, .act, .load false 1 (.tmp 31)⟩,
     ⟨(some 7), none, .act, .mv (.tmp 32)⟩])
   (.seq (.region [
     ⟨(some 8), none, .act, .mv (.const (.int .i64 0))⟩,
     ⟨(some 9), none, .act, .mv (.const (.int .i64 0))⟩])
   (.seq (.seq (.region [
     ⟨(some 33), none, .act, .mv (.tmp 0)⟩,
     ⟨(some 34), none, .act, .len (.tmp 33)⟩,
     ⟨(some 35), none, .act, .mv (.const (.int .i64 0))⟩])
   (.block 2
    (.loop r5l1)))
   (.seq (.region [
     ⟨(some 55), none, .act, .mv (.tmp 8)⟩,
     ⟨(some 56), none, .act, .mv (.tmp 9)⟩,
     ⟨(some 57), none, .act, .eq true .int (.tmp 55) (.tmp 56)⟩])
   (.cond (.tmp 57)
    (.seq (.region [
      ⟨(some 4), none, .act, .mv (.const (.bool false))⟩])
    .ret)
    .skip))))))
  (.region [
    ⟨(some 58), none, .act, .bin .add (.tmp 29) (.const (.int .i64 1))⟩,
    ⟨(some 29), none, .act, .mv (.tmp 58)⟩]))))
def r5l2 : RCode :=
  (.seq (.seq (.region [
    ⟨(some 59), none, .act, .mv (.tmp 11)⟩,
    ⟨(some 60), none, .act, .mv (.tmp 5)⟩,
    ⟨(some 61), none, .act, .len (.tmp 60)⟩,
    ⟨(some 62), none, .act, .bin .lss (.tmp 59) (.tmp 61)⟩])
  (.cond (.tmp 62)
   .skip
   (.exit 4)))
  (.seq (.block 5
   (.seq (.seq (.region [
     ⟨(some 65), none, .act, .mv (.tmp 1)⟩,
     ⟨(some 66), none, .act, .bin .lss (.tmp 65) (.const (.int .i64 1))⟩,
     ⟨(some 67), none, .act, .mv (.tmp 66)⟩,
     ⟨(some 68), (some (67, false)), .act, .mv (.tmp 1)⟩,
     ⟨(some 69), (some (67, false)), .act, .mv (.tmp 5)⟩,
     ⟨(some 70), (some (67, false)), .act, .mv (.tmp 11)⟩,
     ⟨(some 71), (some (67, false)), .act, .indexAddr 1 (.tmp 69) (.tmp 70)⟩,
     ⟨(some 72), (some (67, false)), .act, .load false 1 (.tmp 71)⟩,
     ⟨(some 73), (some (67, false)), .act, .len (.tmp 72)⟩,
     ⟨(some 74), (some (67, false)), .act, .bin .gtr (.tmp 68) (.tmp 73)⟩,
     ⟨(some 75), none, .act, .pick (.tmp 67) (.const (.bool true)) (.tmp 74)⟩,
     ⟨(some 76), none, .act, .mv (.tmp 75)⟩,
     ⟨(some 77), (some (76, false)), .act, .mv (.tmp 1)⟩,
     ⟨(some 78), (some (76, false)), .act, .mv (.tmp 5)⟩,
     ⟨(some 79), (some (76, false)), .act, .mv (.tmp 11)⟩,
     ⟨(some 80), (some (76, false)), .act, .bin .sub (.tmp 79) (.const (.int .i64 1))⟩,
     ⟨(some 81), (some (76, false)), .act, .indexAddr 1 (.tmp 78) (.tmp 80)⟩,
     ⟨(some 82), (some (76, false)), .act, .load false 1 (.tmp 81)⟩,
     ⟨(some 83), (some (76, false)), .act, .len (.tmp 82)⟩,
     ⟨(some 84), (some (76, false)), .act, .bin .gtr (.tmp 77) (.tmp 83)⟩,
     ⟨(some 85), none, .act, .pick (.tmp 76) (.const (.bool true)) (.tmp 84)⟩])
   (.cond (.tmp 85)
    (.exit 5)
    .skip))
   (.seq (.region [
     ⟨(some 86), none, .pure, .mv (.tmp 5)⟩,
     ⟨(some 87), none, .pure, .mv (.tmp 11)⟩,
     ⟨(some 88), none, .pure, .indexAddr 1 (.tmp 86) (.tmp 87)⟩,
     ⟨(some 89), none, .read, .load false 1 (.tmp 88)⟩,
     ⟨(some 90), none, .pure, .mv (.tmp 1)⟩,
     ⟨(some 91), none, .pure, .bin .sub (.tmp 90) (.const (.int .i64 1))⟩,
     ⟨(some 92), none, .pure, .indexAddr 3 (.tmp 89) (.tmp 91)⟩,
     ⟨(some 93), none, .read, .load true 3 (.tmp 92)⟩,
     ⟨(some 94), none, .pure, .mv (.tmp 5)⟩,
     ⟨(some 95), none, .pure, .mv (.tmp 11)⟩,
     ⟨(some 96), none, .pure, .bin .sub (.tmp 95) (.const (.int .i64 1))⟩,
     ⟨(some 97), none, .pure, .indexAddr 1 (.tmp 94) (.tmp 96)⟩,
     ⟨(some 98), none, .read, .load false 1 (.tmp 97)⟩,
     ⟨(some 99), none, .pure, .mv (.tmp 1)⟩,
     ⟨(some 100), none, .pure, .bin .sub (.tmp 99) (.const (.int .i64 1))⟩,
     ⟨(some 101), none, .pure, .indexAddr 3 (.tmp 98) (.tmp 100)⟩,
     ⟨(some 102), none, .read, .load true 3 (.tmp 101)⟩,
     ⟨(some 103), none, .act, .call 17 [(.tmp 93), (.tmp 102)]⟩,
     ⟨(some 104), none, .pure, .bin .lss (.tmp 103) (.const (.int .i64 0))⟩])
   (.cond (.tmp 104)
    (.seq (.region [
      ⟨(some 4), none, .act, .mv (.const (.bool false))⟩])
    .ret)
    .skip))))
  (.region [
    ⟨(some 63), none, .act, .mv (.tmp 11)⟩,
    ⟨(some 64), none, .act, .bin .add (.tmp 63) (.const (.int .i64 1))⟩,
    ⟨(some 11), none, .act, .mv (.tmp 64)⟩])))
def r5 : RCode :=
  (.seq (.region [
    ⟨(some 4), none, .act, .mv (.const (.bool false))⟩])
  (.seq (.seq (.region [
    ⟨(some 12), none, .act, .call 7 []⟩,
    ⟨(some 13), none, .act, .un .not (.tmp 12)⟩])
  (.cond (.tmp 13)
   (.seq (.region [
     ⟨(some 4), none, .act, .mv (.const (.bool false))⟩])
   .ret)
   .skip))
  (.seq (.seq (.region [
    ⟨(some 14), none, .act, .mv (.tmp 0)⟩,
    ⟨(some 15), none, .act, .call 8 [(.tmp 14)]⟩,
    ⟨(some 16), none, .act, .un .not (.tmp 15)⟩])
  (.cond (.tmp 16)
   (.seq (.region [
     ⟨(some 4), none, .act, .mv (.const (.bool true))⟩])
   .ret)
   .skip))
  (.seq (.region [
    ⟨(some 17), none, .act, .mv (.tmp 0)⟩,
    ⟨(some 18), none, .act, .mv (.tmp 1)⟩,
    ⟨(some 19), none, .act, .build [(.int .i64 0), (.bool false)] [(0, 1, (.tmp 18))]⟩,
    ⟨(some 20), none, .act, .buildSl 2 [(.int .i64 0), (.bool false)] 1 [(0, (.tmp 19))]⟩,
    ⟨(some 21), none, .act, .call 15 [(.tmp 17), (.tmp 20)]⟩,
    ⟨(some 5), none, .act, .mv (.tmp 21)⟩])
  (.seq (.seq (.region [
    ⟨(some 22), none, .act, .mv (.tmp 5)⟩,
    ⟨(some 23), none, .act, .len (.tmp 22)⟩,
    ⟨(some 24), none, .act, .mv (.tmp 0)⟩,
    ⟨(some 25), none, .act, .len (.tmp 24)⟩,
    ⟨(some 26), none, .act, .eq true .int (.tmp 23) (.tmp 25)⟩])
  (.cond (.tmp 26)
   (.seq (.region [
     ⟨(some 4), none, .act, .mv (.const (.bool false))⟩])
   .ret)
   .skip))
  (.seq (.seq (.region [
    ⟨(some 27), none, .act, .mv (.tmp 0)⟩,
    ⟨(some 28), none, .act, .len (.tmp 27)⟩,
    ⟨(some 29), none, .act, .mv (.const (.int .i64 0))⟩])
  (.block 0
   (.loop r5l0)))
  (.seq (.seq (.region [
    ⟨(some 11), none, .act, .mv (.const (.int .i64 1))⟩])
  (.block 4
   (.loop r5l2)))
  (.seq (.region [
    ⟨(some 4), none, .act, .mv (.const (.bool true))⟩])
  .ret))))))))
theorem res5 : ∃ c, Try.f5.body = some c ∧ resCode Try.prog 105 c = some r5 := ⟨_, rfl, by kernel_rfl⟩
theorem rr5 : resRes Try.prog Try.f5.results.toList = some [.tmp 4] := by kernel_rfl
theorem ord_in (l s : List Row) (r : Row) (n : Int) (hl : l.length ≤ 1000) (hs : s.length = l.length) (c1 : ∀ x ∈ l, x.length ≤ 1000) (c2 : ∀ x ∈ s, x.length ≤ 1000) (hrl : r.length ≤ 1000) (idx : Nat) (h : AHeap) (k : List RT) (Q : AV → AHeap → Prop)
    (hk : RRun Try.prog Try.f5 105 k (Env.get [(0, rowsA l), (1, i64 n), (5, rowsA s), (8, i64 (l.countP fun x => eqL x r)), (9, i64 (s.countP fun x => eqL x r)), (27, rowsA l), (28, i64 l.length), (29, i64 idx)]) h Q) : ∀ (m i : Nat), i + m = l.length →
    RRun Try.prog Try.f5 105 (.inLoop r5l1 :: .inBlock 2 :: k) (Env.get [(0, rowsA l), (1, i64 n), (5, rowsA s), (7, rowA r), (8, i64 ((l.take i).countP fun x => eqL x r)), (9, i64 ((s.take i).countP fun x => eqL x r)), (27, rowsA l), (28, i64 l.length), (29, i64 idx), (34, i64 l.length), (35, i64 i)]) h Q := by
  intro m
  induction m with
  | zero =>
    intro i hi
    rw [List.take_of_length_le (by omega), List.take_of_length_le (by omega)]
    refine RRun.inLoop ?_
    repeat' (first | refine S.nilK ?_ | (refine S.op rfl ?_; first | ((first | refine S.lss rfl rfl ?_ ?_) <;> intro hlt <;> try (exfalso; omega))) | refine S.seq ?_ | refine S.region ?_ | refine S.condF rfl ?_ | refine RRun.exit rfl ?_)
    exact S.keep [0, 1, 5, 8, 9, 27, 28, 29] rfl hk
  | succ m ih =>
    intro i hi
    have hie : i < l.length := by omega
    have hie' : i < s.length := by omega
    have h1 : (l.map fun r => [rowA r])[((i : Nat) : Int).toNat]? = some [rowA l[i]] := by simp [hie]
    have h2 : (s.map fun r => [rowA r])[((i : Nat) : Int).toNat]? = some [rowA s[i]] := by simp [hie']
    have hsl : (s.map fun r => [rowA r]).length = s.length := by simp
    have cx := fun h => eqRow_spec l[i] r (c1 _ (List.getElem_mem hie)) hrl h
    have cy := fun h => eqRow_spec s[i] r (c2 _ (List.getElem_mem hie')) hrl h
    have t1 : (l.take (i + 1)).countP (fun x => eqL x r) = (l.take i).countP (fun x => eqL x r) + (if eqL l[i] r then 1 else 0) := by
      rw [List.take_add_one, List.getElem?_eq_getElem hie, List.countP_append]; simp [List.countP_cons]
    have t2 : (s.take (i + 1)).countP (fun x => eqL x r) = (s.take i).countP (fun x => eqL x r) + (if eqL s[i] r then 1 else 0) := by
      rw [List.take_add_one, List.getElem?_eq_getElem hie', List.countP_append]; simp [List.countP_cons]
    have hih := ih (i + 1) (by omega)
    rw [t1, t2] at hih
    have b1 : (l.take i).countP (fun x => eqL x r) ≤ 1000 := Nat.le_trans List.countP_le_length (by simp; omega)
    have b2 : (s.take i).countP (fun x => eqL x r) ≤ 1000 := Nat.le_trans List.countP_le_length (by simp; omega)
    generalize (l.take i).countP (fun x => eqL x r) = na at hih b1 ⊢
    generalize (s.take i).countP (fun x => eqL x r) = nb at hih b2 ⊢
    generalize l[i] = x at h1 cx hih
    generalize s[i] = y at h2 cy hih
    generalize eqL x r = p1 at cx hih
    generalize eqL y r = p2 at cy hih
    refine RRun.inLoop ?_
    cases p1 with
    | false =>
      cases p2 with
      | false =>
        simp only [Bool.false_eq_true, if_false, if_true, Nat.add_zero] at hih
        repeat' (first | refine S.nilK ?_ | (refine S.op rfl ?_; first | refine R.indexAddr rfl rfl (by omega) h1 ?_ | refine R.indexAddr rfl rfl (by omega) h2 ?_ | refine callS rfl rfl (cx _) ?_ | refine callS rfl rfl (cy _) ?_ | refine S.addNN (n := 1) rfl rfl (by omega) ?_ | refine R.mv rfl ?_ | refine R.loadR rfl rfl ?_ | ((first | refine S.lss rfl rfl ?_ ?_) <;> intro hlt <;> try (exfalso; omega))) | refine S.seq ?_ | refine S.region ?_ | refine S.condT rfl ?_ | refine S.condF rfl ?_ | refine RRun.skip ?_ | refine RRun.block ?_ | refine RRun.inBlock ?_)
        exact S.keep [0, 1, 5, 7, 8, 9, 27, 28, 29, 34, 35] rfl hih
      | true =>
        simp only [Bool.false_eq_true, if_false, if_true, Nat.add_zero] at hih
        repeat' (first | refine S.nilK ?_ | (refine S.op rfl ?_; first | refine R.indexAddr rfl rfl (by omega) h1 ?_ | refine R.indexAddr rfl rfl (by omega) h2 ?_ | refine callS rfl rfl (cx _) ?_ | refine callS rfl rfl (cy _) ?_ | refine S.addNN (n := 1) rfl rfl (by omega) ?_ | refine R.mv rfl ?_ | refine R.loadR rfl rfl ?_ | ((first | refine S.lss rfl rfl ?_ ?_) <;> intro hlt <;> try (exfalso; omega))) | refine S.seq ?_ | refine S.region ?_ | refine S.condT rfl ?_ | refine S.condF rfl ?_ | refine RRun.skip ?_ | refine RRun.block ?_ | refine RRun.inBlock ?_)
        exact S.keep [0, 1, 5, 7, 8, 9, 27, 28, 29, 34, 35] rfl hih
    | true =>
      cases p2 with
      | false =>
        simp only [Bool.false_eq_true, if_false, if_true, Nat.add_zero] at hih
        repeat' (first | refine S.nilK ?_ | (refine S.op rfl ?_; first | refine R.indexAddr rfl rfl (by omega) h1 ?_ | refine R.indexAddr rfl rfl (by omega) h2 ?_ | refine callS rfl rfl (cx _) ?_ | refine callS rfl rfl (cy _) ?_ | refine S.addNN (n := 1) rfl rfl (by omega) ?_ | refine R.mv rfl ?_ | refine R.loadR rfl rfl ?_ | ((first | refine S.lss rfl rfl ?_ ?_) <;> intro hlt <;> try (exfalso; omega))) | refine S.seq ?_ | refine S.region ?_ | refine S.condT rfl ?_ | refine S.condF rfl ?_ | refine RRun.skip ?_ | refine RRun.block ?_ | refine RRun.inBlock ?_)
        exact S.keep [0, 1, 5, 7, 8, 9, 27, 28, 29, 34, 35] rfl hih
      | true =>
        simp only [Bool.false_eq_true, if_false, if_true, Nat.add_zero] at hih
        repeat' (first | refine S.nilK ?_ | (refine S.op rfl ?_; first | refine R.indexAddr rfl rfl (by omega) h1 ?_ | refine R.indexAddr rfl rfl (by omega) h2 ?_ | refine callS rfl rfl (cx _) ?_ | refine callS rfl rfl (cy _) ?_ | refine S.addNN (n := 1) rfl rfl (by omega) ?_ | refine R.mv rfl ?_ | refine R.loadR rfl rfl ?_ | ((first | refine S.lss rfl rfl ?_ ?_) <;> intro hlt <;> try (exfalso; omega))) | refine S.seq ?_ | refine S.region ?_ | refine S.condT rfl ?_ | refine RRun.skip ?_ | refine RRun.block ?_ | refine RRun.inBlock ?_)
        exact S.keep [0, 1, 5, 7, 8, 9, 27, 28, 29, 34, 35] rfl hih
theorem ord_out (l s : List Row) (n : Int) (hl : l.length ≤ 1000) (hs : s.Perm l) (c1 : ∀ x ∈ l, x.length ≤ 1000) (h : AHeap) (k : List RT) (Q : AV → AHeap → Prop)
    (hk : RRun Try.prog Try.f5 105 k (Env.get [(1, i64 n), (5, rowsA s)]) h Q) : ∀ (m i : Nat), i + m = l.length →
    RRun Try.prog Try.f5 105 (.inLoop r5l0 :: .inBlock 0 :: k) (Env.get [(0, rowsA l), (1, i64 n), (5, rowsA s), (27, rowsA l), (28, i64 l.length), (29, i64 i)]) h Q := by
  intro m
  induction m with
  | zero =>
    intro i hi
    refine RRun.inLoop ?_
    repeat' (first | refine S.nilK ?_ | (refine S.op rfl ?_; first | ((first | refine S.lss rfl rfl ?_ ?_) <;> intro hlt <;> try (exfalso; omega))) | refine S.seq ?_ | refine S.region ?_ | refine S.condF rfl ?_ | refine RRun.exit rfl ?_)
    exact S.keep [1, 5] rfl hk
  | succ m ih =>
    intro i hi
    have hie : i < l.length := by omega
    have h1 : (l.map fun r => [rowA r])[((i : Nat) : Int).toNat]? = some [rowA l[i]] := by simp [hie]
    have hlen : (l.map fun r => [rowA r]).length = l.length := by simp
    have hrl := c1 _ (List.getElem_mem hie)
    have hih := ih (i + 1) (by omega)
    generalize l[i] = r at h1 hrl
    have hc : s.countP (fun x => eqL x r) = l.countP (fun x => eqL x r) := hs.countP_eq _
    have hin := fun k Q hk => ord_in l s r n hl hs.length_eq c1 (fun x hx => c1 x (hs.mem_iff.1 hx)) hrl i h k Q hk l.length 0 (by omega)
    rw [hc] at hin
    refine RRun.inLoop ?_
    repeat' (first | ((show RRun _ _ _ (.code (.loop r5l1) :: _) _ _ _; refine Stop.h ?_)) | refine S.nilK ?_ | (refine S.op rfl ?_; first | refine R.indexAddr rfl rfl (by omega) h1 ?_ | refine R.mv rfl ?_ | refine R.loadR rfl rfl ?_ | refine R.len rfl ?_ | ((first | refine S.lss rfl rfl ?_ ?_) <;> intro hlt <;> try (exfalso; omega))) | refine S.seq ?_ | refine S.region ?_ | refine S.condT rfl ?_ | refine RRun.skip ?_ | refine RRun.block ?_)
    refine ⟨?_⟩
    rw [hlen]
    refine RRun.loopIn (S.keep [0, 1, 5, 7, 8, 9, 27, 28, 29, 34, 35] rfl (hin _ _ ?_))
    repeat' (first | refine S.nilK ?_ | (refine S.op rfl ?_; first | refine S.eqIntSame rfl rfl ?_ | refine R.mv rfl ?_ | refine S.addI rfl rfl (by omega) ?_) | refine S.seq ?_ | refine S.region ?_ | refine S.condF rfl ?_ | refine RRun.skip ?_ | refine RRun.inBlock ?_)
    rw [show ((i : Int) + 1) = ((i + 1 : Nat) : Int) by omega]
    exact S.keep [0, 1, 5, 27, 28, 29] rfl hih
theorem ord_end (s : List Row) (n : Int) (hl : s.length ≤ 1000) (hn : Fits n) (c1 : ∀ x ∈ s, x.length ≤ 1000) (hs : St.Sorted (ltR [(n, false)]) s) (h : AHeap) (k : List RT) (Q : AV → AHeap → Prop)
    (hk : RRun Try.prog Try.f5 105 k (Env.get []) h Q) : ∀ (m i : Nat), 1 ≤ i → s.length ≤ i + m →
    RRun Try.prog Try.f5 105 (.inLoop r5l2 :: .inBlock 4 :: k) (Env.get [(1, i64 n), (5, rowsA s), (11, i64 i)]) h Q := by
  have hlen : (s.map fun r => [rowA r]).length = s.length := by simp
  intro m
  induction m with
  | zero =>
    intro i h1 hi
    refine RRun.inLoop ?_
    repeat' (first | refine S.nilK ?_ | (refine S.op rfl ?_; first | refine R.mv rfl ?_ | refine R.len rfl ?_ | ((first | refine S.lss rfl rfl ?_ ?_) <;> intro hlt <;> try (exfalso; omega))) | refine S.seq ?_ | refine S.region ?_ | refine S.condF rfl ?_ | refine RRun.exit rfl ?_)
    exact S.keep [] rfl hk
  | succ m ih =>
    intro i h1 hi
    by_cases hie : i < s.length
    · have g1 : (s.map fun r => [rowA r])[((i : Nat) : Int).toNat]? = some [rowA s[i]] := by simp [hie]
      have hie' : i - 1 < s.length := by omega
      have g2 : (s.map fun r => [rowA r])[(((i : Nat) : Int) - 1).toNat]? = some [rowA s[i - 1]] := by
        rw [show (((i : Nat) : Int) - 1).toNat = i - 1 by omega]; simp [hie']
      have hlt := hs.le (i := i - 1) (j := i) (by omega) (List.getElem?_eq_getElem hie') (List.getElem?_eq_getElem hie)
      have l1 := c1 _ (List.getElem_mem hie)
      have l2 := c1 _ (List.getElem_mem hie')
      have hih := ih (i + 1) (by omega) (by omega)
      generalize s[i] = x at g1 hlt l1
      generalize s[i - 1] = y at g2 hlt l2
      have hx : (x.map Val.cells).length = x.length := by simp
      have hy : (y.map Val.cells).length = y.length := by simp
      have ei : ((i : Int) + 1) = ((i + 1 : Nat) : Int) := by omega
      by_cases hc : n < 1 ∨ (x.length : Int) < n ∨ (y.length : Int) < n
      · refine RRun.inLoop ?_
        rcases (show n < 1 ∨ 1 ≤ n by omega) with q1 | q1
        · repeat' (first | refine S.nilK ?_ | (refine S.op rfl ?_; first | refine R.mv rfl ?_ | refine S.addI rfl rfl (by omega) ?_ | refine R.pickT rfl rfl ?_ | refine R.len rfl ?_ | ((first | refine S.lss rfl rfl ?_ ?_) <;> intro hlt <;> try (exfalso; omega))) | refine S.skip rfl ?_ | refine S.seq ?_ | refine S.region ?_ | refine S.condT rfl ?_ | refine RRun.skip ?_ | refine RRun.block ?_ | refine RRun.exit rfl ?_)
          rw [ei]; exact S.keep [1, 5, 11] rfl hih
        · rcases (show (x.length : Int) < n ∨ n ≤ (x.length : Int) by omega) with q2 | q2
          · repeat' (first | refine S.nilK ?_ | (refine S.op rfl ?_; first | refine R.indexAddr rfl rfl (by omega) g1 ?_ | refine R.mv rfl ?_ | refine R.loadR rfl rfl ?_ | refine S.addI rfl rfl (by omega) ?_ | refine R.pickT rfl rfl ?_ | refine R.pickF rfl rfl ?_ | refine R.len rfl ?_ | ((first | refine S.lss rfl rfl ?_ ?_ | refine S.gtr rfl rfl ?_ ?_) <;> intro hlt <;> try (exfalso; omega))) | refine S.skip rfl ?_ | refine S.seq ?_ | refine S.region ?_ | refine S.condT rfl ?_ | refine RRun.skip ?_ | refine RRun.block ?_ | refine RRun.exit rfl ?_)
            rw [ei]; exact S.keep [1, 5, 11] rfl hih
          · have q3 : (y.length : Int) < n := by omega
            repeat' (first | refine S.nilK ?_ | (refine S.op rfl ?_; first | refine R.indexAddr rfl rfl (by omega) g1 ?_ | refine R.indexAddr rfl rfl (by omega) g2 ?_ | refine R.mv rfl ?_ | refine R.loadR rfl rfl ?_ | refine S.addI rfl rfl (by omega) ?_ | refine S.subI rfl rfl (by omega) ?_ | refine R.pickF rfl rfl ?_ | refine R.len rfl ?_ | ((first | refine S.lss rfl rfl ?_ ?_ | refine S.gtr rfl rfl ?_ ?_) <;> intro hlt <;> try (exfalso; omega))) | refine S.seq ?_ | refine S.region ?_ | refine S.condT rfl ?_ | refine RRun.skip ?_ | refine RRun.block ?_ | refine RRun.exit rfl ?_)
            rw [ei]; exact S.keep [1, 5, 11] rfl hih
      · have q1 : 1 ≤ n := by omega
        have q2 : n ≤ x.length := by omega
        have q3 : n ≤ y.length := by omega
        have i1 : (n - 1).toNat < x.length := by omega
        have i2 : (n - 1).toNat < y.length := by omega
        have k1 : (x.map Val.cells)[(n - 1).toNat]? = some [i64 x[(n - 1).toNat].kind, i64 x[(n - 1).toNat].n, str x[(n - 1).toNat].s] := by
          rw [List.getElem?_map, List.getElem?_eq_getElem i1]; rfl
        have k2 : (y.map Val.cells)[(n - 1).toNat]? = some [i64 y[(n - 1).toNat].kind, i64 y[(n - 1).toNat].n, str y[(n - 1).toNat].s] := by
          rw [List.getElem?_map, List.getElem?_eq_getElem i2]; rfl
        have e1 : atF x n = x[(n - 1).toNat] := by unfold atF; rw [if_neg (by omega), List.getElem?_eq_getElem i1]; rfl
        have e2 : atF y n = y[(n - 1).toNat] := by unfold atF; rw [if_neg (by omega), List.getElem?_eq_getElem i2]; rfl
        have hord : ¬ ordV x[(n - 1).toNat] y[(n - 1).toNat] < 0 := by
          intro hneg
          have : ltR [(n, false)] x y = true := by
            unfold ltR cmpR cmpR
            rw [e1, e2]
            refine decide_eq_true ?_
            simp only [Bool.false_eq_true, if_false]
            rw [if_pos (by omega)]
            exact hneg
          rw [hlt] at this; cases this
        generalize x[(n - 1).toNat] = v at k1 hord
        generalize y[(n - 1).toNat] = w at k2 hord
        have c17 : ∀ h, ACalls Try.prog 17 [.ag [i64 v.kind, i64 v.n, str v.s], .ag [i64 w.kind, i64 w.n, str w.s]] h (fun x h' => x = i64 (ordV v w) ∧ h' = h) := fun h => refOrder_spec v w h
        generalize ordV v w = o at c17 hord
        refine RRun.inLoop ?_
        repeat' (first | refine S.nilK ?_ | (refine S.op rfl ?_; first | refine R.indexAddr rfl rfl (by omega) g1 ?_ | refine R.indexAddr rfl rfl (by omega) g2 ?_ | refine R.indexAddr rfl rfl (by omega) k1 ?_ | refine R.indexAddr rfl rfl (by omega) k2 ?_ | refine callS rfl rfl (c17 _) ?_ | refine R.mv rfl ?_ | refine R.loadR rfl rfl ?_ | refine S.addI rfl rfl (by omega) ?_ | refine S.subI rfl rfl (by omega) ?_ | refine R.pickF rfl rfl ?_ | refine R.len rfl ?_ | ((first | refine S.lss rfl rfl ?_ ?_ | refine S.gtr rfl rfl ?_ ?_) <;> intro hlt <;> try (exfalso; omega))) | refine S.seq ?_ | refine S.region ?_ | refine S.condT rfl ?_ | refine S.condF rfl ?_ | refine RRun.skip ?_ | refine RRun.block ?_ | refine RRun.inBlock ?_)
        rw [ei]; exact S.keep [1, 5, 11] rfl hih
    · refine RRun.inLoop ?_
      repeat' (first | refine S.nilK ?_ | (refine S.op rfl ?_; first | refine R.mv rfl ?_ | refine R.len rfl ?_ | ((first | refine S.lss rfl rfl ?_ ?_) <;> intro hlt <;> try (exfalso; omega))) | refine S.seq ?_ | refine S.region ?_ | refine S.condF rfl ?_ | refine RRun.exit rfl ?_)
      exact S.keep [] rfl hk
end Go.Proofs.Ythadifboeggnpaa

namespace Go.Proofs.Ythadifboeggnpaa
open Go.Av
theorem relOrders_spec (l : List Row) (n : Int) (hl : l.length ≤ 9223372036854775807) (hr : ∀ r ∈ l, r.length ≤ 9223372036854775807 ∧ ∀ v ∈ r, v.ok) (hn : Fits n) (h : AHeap) :
    ACalls Try.prog 5 [rowsA l, i64 n] h (fun x h' => x = bl true ∧ h' = h) := by
  have c8 := fun h => rows_spec l hl (fun r hr' => (hr r hr').1) h
  obtain ⟨c', hc1, hc2⟩ := res5
  refine ACalls.weak (ACalls.enter Try.func5 hc1 Try.ntmps5 hc2 (Nat.le_of_ble_eq_true rfl) rfl ?_)
  cases h1 : fewRows l with
  | false =>
    rw [h1] at c8
    repeat' (first | refine S.nilK ?_ | (refine S.op rfl ?_; first | refine callS rfl rfl (awake_spec _) ?_ | refine callS rfl rfl (c8 _) ?_ | refine R.mv rfl ?_ | refine R.not rfl ?_) | refine S.seq ?_ | refine S.region ?_ | refine S.condT rfl ?_ | refine S.condF rfl ?_ | refine RRun.skip ?_)
    apply S.ret rr5
    case hx => repeat (first | exact ResAt.nil | apply ResAt.tmp rfl)
    exact ⟨_, h, .refl _, (by repeat (first | exact AHeap.le.refl _)), rfl, rfl⟩
  | true =>
  rw [h1] at c8
  simp only [fewRows, few, Bool.and_eq_true, decide_eq_true_eq, List.all_eq_true] at h1
  have hrl : ∀ r ∈ l, r.length ≤ 1000 := fun r hr' => by have := (h1.1 r hr').2; omega
  have hbo : ∀ p ∈ [(n, false)], Fits p.1 := fun p hp => by rw [List.mem_singleton.1 hp]; exact hn
  have c15 : ∀ h, ACalls Try.prog 15 [rowsA l, .sl 2 [[i64 n, bl false]] .full] h (fun x h' => x = rowsA (St.isort (ltR [(n, false)]) l) ∧ h' = h) := fun h =>
    ACalls.args (sort_spec l [(n, false)] (by omega) hrl (by simp) hbo h) (.cons (.refl _) (.cons (.toRo _ _ _) .nil))
  have hp := St.isort_perm (ltR [(n, false)]) l
  have hso := St.isort_sorted (ltR_sw [(n, false)]) l
  have hsl := St.isort_length (ltR [(n, false)]) l
  generalize St.isort (ltR [(n, false)]) l = s at c15 hp hso hsl
  have e1 : (s.map fun r => [rowA r]).length = l.length := by rw [List.length_map, hsl]
  have e2 : (l.map fun r => [rowA r]).length = l.length := by simp
  repeat' (first | ((show RRun _ _ _ (.code (.loop r5l0) :: _) _ _ _; refine Stop.h ?_)) | refine S.nilK ?_ | (refine S.op rfl ?_; first | refine callS rfl rfl (awake_spec _) ?_ | refine callS rfl rfl (c8 _) ?_ | refine callS rfl rfl (c15 _) ?_ | refine R.mv rfl ?_ | refine R.len rfl ?_ | refine R.not rfl ?_ | refine R.build rfl rfl ?_ | refine R.buildSl rfl rfl rfl (by decide) ?_ | ((first | refine S.eqInt rfl rfl ?_ ?_) <;> intro hlt <;> try (exfalso; omega))) | refine S.seq ?_ | refine S.region ?_ | refine S.condF rfl ?_ | refine RRun.skip ?_ | refine RRun.block ?_)
  refine ⟨?_⟩
  rw [e2]
  refine RRun.loopIn (S.keep [0, 1, 5, 27, 28, 29] rfl (ord_out l s n (by omega) hp hrl _ _ _ ?_ l.length 0 (by omega)))
  repeat' (first | ((show RRun _ _ _ (.code (.loop r5l2) :: _) _ _ _; refine Stop.h ?_)) | refine S.nilK ?_ | (refine S.op rfl ?_; first | refine R.mv rfl ?_) | refine S.seq ?_ | refine S.region ?_ | refine RRun.block ?_)
  refine ⟨?_⟩
  refine RRun.loopIn (S.keep [1, 5, 11] rfl (ord_end s n (by omega) hn (fun x hx => hrl x (hp.mem_iff.1 hx)) hso _ _ _ ?_ s.length 1 (by omega) (by omega)))
  repeat' (first | refine S.nilK ?_ | (refine S.op rfl ?_; first | refine R.mv rfl ?_) | refine S.seq ?_ | refine S.region ?_)
  apply S.ret rr5
  case hx => repeat (first | exact ResAt.nil | apply ResAt.tmp rfl)
  exact ⟨_, h, .refl _, (by repeat (first | exact AHeap.le.refl _)), rfl, rfl⟩
end Go.Proofs.Ythadifboeggnpaa
