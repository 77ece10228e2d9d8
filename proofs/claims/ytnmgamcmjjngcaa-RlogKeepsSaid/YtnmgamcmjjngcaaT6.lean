import Derived.Test.YtnmgamcmjjngcaaAvO
import Derived.Test.YtnmgamcmjjngcaaT5
set_option linter.unusedVariables false
set_option linter.unusedSimpArgs false
namespace Go.Proofs.Ytnmgamcmjjngcaa
open Go.Av

theorem append_s (L : Log) (e : List Entry) : (L.append e).1.s = L.s := by
  unfold Log.append
  split
  · rfl
  · split <;> rfl

theorem append_cases (L : Log) (e : List Entry) :
    ((L.append e).1 = L ∧ ((L.append e).2 = 80 ∨ e = [] ∧ (L.append e).2 = 0)) ∨
    ∃ x r, e = x :: r ∧ follow e = true ∧ L.s.index + 1 ≤ x.index ∧ x.index - 1 ≤ L.s.index + UInt64.ofNat L.l.length ∧ (L.append e).2 = 0 ∧ (L.append e).1.l = L.l.take (x.index - (L.s.index + 1)).toNat ++ e := by
  unfold Log.append
  split
  · exact .inl ⟨rfl, .inr ⟨rfl, rfl⟩⟩
  · next x r =>
    split
    · next hc => exact .inr ⟨x, r, rfl, hc.1, hc.2.1, hc.2.2, rfl, rfl⟩
    · exact .inl ⟨rfl, .inl rfl⟩

theorem append_len (L : Log) (e : List Entry) : (L.append e).1.l.length ≤ L.l.length + e.length := by
  rcases append_cases L e with ⟨h, _⟩ | ⟨x, r, h1, h2, h3, h4, h5, h6⟩
  · rw [h]; omega
  · rw [h6]; simp; omega

theorem append_mem (L : Log) (e : List Entry) : ∀ x ∈ (L.append e).1.l, x ∈ L.l ∨ x ∈ e := by
  rcases append_cases L e with ⟨h, _⟩ | ⟨x, r, h1, h2, h3, h4, h5, h6⟩
  · rw [h]; exact fun x hx => .inl hx
  · rw [h6]; intro y hy
    rcases List.mem_append.1 hy with h | h
    · exact .inl (List.mem_of_mem_take h)
    · exact .inr h

theorem at_all (L : Log) (hi : L.s.index ≤ far) (hl : L.l.length ≤ 100) : L.at' (L.s.index + 1) 100 = L.l := by
  have h3 := UInt64.le_iff_toNat_le.1 hi
  have h4 : far.toNat = 4611686018427387904 := rfl
  unfold Log.at'
  match hL : L.l with
  | [] => split <;> simp
  | x :: r =>
    rw [hL] at hl
    have h5 : (UInt64.ofNat (x :: r).length).toNat = (x :: r).length := UInt64.toNat_ofNat_of_lt' (by simp only [UInt64.size]; omega)
    have hle : L.s.index + 1 ≤ L.s.index + UInt64.ofNat (x :: r).length := UInt64.le_iff_toNat_le.2 (by
      simp only [UInt64.toNat_add, h5]
      simp at hl ⊢; omega)
    rw [if_pos ⟨UInt64.le_refl _, hle, by decide⟩, UInt64.sub_self]
    show (List.drop 0 (x :: r)).take 100 = x :: r
    rw [List.drop_zero, List.take_of_length_le hl]

theorem follow_at : ∀ (l : List Entry) (a : UInt64) (x : Entry) (r : List Entry), l = x :: r → x.index = a → follow l = true → ∀ (j : Nat) (hj : j < l.length), l[j].index = a + UInt64.ofNat j
  | _, a, x, r, rfl, hx, hf, 0, _ => by simp [hx]
  | _, a, x, [], rfl, hx, hf, j + 1, hj => by simp at hj
  | _, a, x, y :: r, rfl, hx, hf, j + 1, hj => by
    simp only [follow, Bool.and_eq_true, beq_iff_eq] at hf
    have hy : y.index = a + 1 := by rw [← hx, ← hf.1]; simp
    have := follow_at (y :: r) (a + 1) y r rfl hy hf.2 j (by simpa using hj)
    rw [List.getElem_cons_succ, this, UInt64.add_assoc]
    congr 1
    rw [UInt64.ofNat_add, UInt64.add_comm]; rfl

/-- What stands in a log into which one list was put. -/
theorem chain (L : Log) (hL : L.l = []) (hi : L.s.index ≤ far) (e : List Entry) (j : Nat) (hj : j < (L.append e).1.l.length) : ((L.append e).1.l[j]).index = L.s.index + 1 + UInt64.ofNat j := by
  rcases append_cases L e with ⟨h, _⟩ | ⟨x, r, h1, h2, h3, h4, h5, h6⟩
  · simp only [h, hL] at hj; simp at hj
  · have h7 : (L.append e).1.l = e := by rw [h6, hL]; simp
    have g3 := UInt64.le_iff_toNat_le.1 hi
    have g4 : far.toNat = 4611686018427387904 := rfl
    have hx : x.index = L.s.index + 1 := by
      rw [hL] at h4
      have h3' := UInt64.le_iff_toNat_le.1 h3
      have h4' := UInt64.le_iff_toNat_le.1 h4
      apply UInt64.toNat_inj.1
      have hx := x.index.toNat_lt
      simp only [UInt64.toNat_add, UInt64.toNat_sub] at h3' h4' ⊢
      simp at h3' h4' ⊢
      omega
    have := follow_at e (L.s.index + 1) x r h1 hx h2 j (by rw [← h7]; exact hj)
    rw [← this]
    simp only [h7]

def r3l0 : RCode :=
  (.seq (.seq (.region [
    ⟨(some 54), none, .pure, .mv (.tmp 10)⟩,
    ⟨(some 55), none, .pure, .mv (.tmp 8)⟩,
    ⟨(some 56), none, .pure, .len (.tmp 55)⟩,
    ⟨(some 57), none, .pure, .bin .lss (.tmp 54) (.tmp 56)⟩,
    ⟨(some 58), none, .pure, .mv (.tmp 57)⟩,
    ⟨(some 59), (some (58, true)), .pure, .mv (.tmp 8)⟩,
    ⟨(some 60), (some (58, true)), .pure, .mv (.tmp 10)⟩,
    ⟨(some 61), (some (58, true)), .pure, .indexAddr 4 (.tmp 59) (.tmp 60)⟩,
    ⟨(some 62), (some (58, true)), .pure, .fieldAddr 0 (.tmp 61)⟩,
    ⟨(some 63), (some (58, true)), .read, .load false 1 (.tmp 62)⟩,
    ⟨(some 64), (some (58, true)), .pure, .mv (.tmp 2)⟩,
    ⟨(some 65), (some (58, true)), .pure, .indexAddr 4 (.tmp 64) (.const (.int .i64 0))⟩,
    ⟨(some 66), (some (58, true)), .pure, .fieldAddr 0 (.tmp 65)⟩,
    ⟨(some 67), (some (58, true)), .read, .load false 1 (.tmp 66)⟩,
    ⟨(some 68), (some (58, true)), .pure, .bin .lss (.tmp 63) (.tmp 67)⟩,
    ⟨(some 69), none, .pure, .pick (.tmp 58) (.tmp 68) (.const (.bool false))⟩])
  (.cond (.tmp 69)
   .skip
   (.exit 0)))
  (.block 1
   (.region [
     ⟨(some 70), none, .act, .mv (.tmp 10)⟩,
     ⟨(some 71), none, .act, .bin .add (.tmp 70) (.const (.int .i64 1))⟩,
     ⟨(some 10), none, .act, .mv (.tmp 71)⟩])))
/-- plenum/plenumlaw08.RlogKeeps -/
def r3 : RCode :=
  (.seq (.region [
    ⟨(some 3), none, .act, .box (.tmp 0)⟩,
    ⟨(some 6), none, .act, .mv (.const (.bool false))⟩])
  (.seq (.seq (.region [
    ⟨(some 11), none, .act, .call 10 []⟩,
    ⟨(some 12), none, .act, .un .not (.tmp 11)⟩])
  (.cond (.tmp 12)
   (.seq (.region [
     ⟨(some 6), none, .act, .mv (.const (.bool false))⟩])
   .ret)
   .skip))
  (.seq (.seq (.region [
    ⟨(some 13), none, .act, .load true 4 (.tmp 3)⟩,
    ⟨(some 14), none, .act, .call 11 [(.tmp 13)]⟩,
    ⟨(some 15), none, .act, .un .not (.tmp 14)⟩,
    ⟨(some 16), none, .act, .mv (.tmp 15)⟩,
    ⟨(some 17), (some (16, false)), .act, .mv (.tmp 1)⟩,
    ⟨(some 18), (some (16, false)), .act, .call 12 [(.tmp 17)]⟩,
    ⟨(some 19), (some (16, false)), .act, .un .not (.tmp 18)⟩,
    ⟨(some 20), none, .act, .pick (.tmp 16) (.const (.bool true)) (.tmp 19)⟩,
    ⟨(some 21), none, .act, .mv (.tmp 20)⟩,
    ⟨(some 22), (some (21, false)), .act, .mv (.tmp 2)⟩,
    ⟨(some 23), (some (21, false)), .act, .call 12 [(.tmp 22)]⟩,
    ⟨(some 24), (some (21, false)), .act, .un .not (.tmp 23)⟩,
    ⟨(some 25), none, .act, .pick (.tmp 21) (.const (.bool true)) (.tmp 24)⟩,
    ⟨(some 26), none, .act, .mv (.tmp 25)⟩,
    ⟨(some 27), (some (26, false)), .act, .mv (.tmp 2)⟩,
    ⟨(some 28), (some (26, false)), .act, .len (.tmp 27)⟩,
    ⟨(some 29), (some (26, false)), .act, .eq false .int (.tmp 28) (.const (.int .i64 0))⟩,
    ⟨(some 30), none, .act, .pick (.tmp 26) (.const (.bool true)) (.tmp 29)⟩])
  (.cond (.tmp 30)
   (.seq (.region [
     ⟨(some 6), none, .act, .mv (.const (.bool true))⟩])
   .ret)
   .skip))
  (.seq (.region [
    ⟨(some 31), none, .act, .load true 4 (.tmp 3)⟩,
    ⟨(some 32), none, .act, .call 13 [(.tmp 31)]⟩,
    ⟨(some 7), none, .act, .mv (.tmp 32)⟩])
  (.seq (.region [
    ⟨(some 33), none, .act, .mv (.tmp 7)⟩,
    ⟨(some 34), none, .act, .mv (.tmp 1)⟩,
    ⟨(some 35), none, .act, .call 14 [(.tmp 33), (.tmp 34)]⟩])
  (.seq (.region [
    ⟨(some 36), none, .act, .mv (.tmp 7)⟩,
    ⟨(some 37), none, .act, .mv (.tmp 7)⟩,
    ⟨(some 38), none, .act, .call 16 [(.tmp 37)]⟩,
    ⟨(some 39), none, .act, .call 15 [(.tmp 36), (.tmp 38), (.const (.int .i64 100))]⟩,
    ⟨(some 8), none, .act, .mv (.tmp 39)⟩])
  (.seq (.seq (.region [
    ⟨(some 40), none, .act, .mv (.tmp 7)⟩,
    ⟨(some 41), none, .act, .mv (.tmp 2)⟩,
    ⟨(some 42), none, .act, .call 14 [(.tmp 40), (.tmp 41)]⟩,
    ⟨(some 43), none, .act, .eq true .int (.tmp 42) (.const (.int .i64 0))⟩])
  (.cond (.tmp 43)
   (.seq (.region [
     ⟨(some 44), none, .act, .mv (.tmp 7)⟩,
     ⟨(some 45), none, .act, .mv (.tmp 7)⟩,
     ⟨(some 46), none, .act, .call 16 [(.tmp 45)]⟩,
     ⟨(some 47), none, .act, .call 15 [(.tmp 44), (.tmp 46), (.const (.int .i64 100))]⟩,
     ⟨(some 48), none, .act, .mv (.tmp 8)⟩,
     ⟨(some 49), none, .act, .call 17 [(.tmp 47), (.tmp 48)]⟩,
     ⟨(some 6), none, .act, .mv (.tmp 49)⟩])
   .ret)
   .skip))
  (.seq (.region [
    ⟨(some 50), none, .act, .mv (.tmp 7)⟩,
    ⟨(some 51), none, .act, .mv (.tmp 7)⟩,
    ⟨(some 52), none, .act, .call 16 [(.tmp 51)]⟩,
    ⟨(some 53), none, .act, .call 15 [(.tmp 50), (.tmp 52), (.const (.int .i64 100))]⟩,
    ⟨(some 9), none, .act, .mv (.tmp 53)⟩])
  (.seq (.region [
    ⟨(some 10), none, .act, .mv (.const (.int .i64 0))⟩])
  (.seq (.block 0
   (.loop r3l0))
  (.seq (.region [
    ⟨(some 72), none, .pure, .mv (.tmp 9)⟩,
    ⟨(some 73), none, .pure, .len (.tmp 72)⟩,
    ⟨(some 74), none, .pure, .mv (.tmp 10)⟩,
    ⟨(some 75), none, .pure, .mv (.tmp 2)⟩,
    ⟨(some 76), none, .pure, .len (.tmp 75)⟩,
    ⟨(some 77), none, .pure, .bin .add (.tmp 74) (.tmp 76)⟩,
    ⟨(some 78), none, .pure, .eq false .int (.tmp 73) (.tmp 77)⟩,
    ⟨(some 79), none, .pure, .mv (.tmp 78)⟩,
    ⟨(some 80), (some (79, true)), .pure, .mv (.tmp 9)⟩,
    ⟨(some 81), (some (79, true)), .pure, .mv (.tmp 10)⟩,
    ⟨(some 82), (some (79, true)), .pure, .sliceSl 4 (.tmp 80) none (some (.tmp 81)) none⟩,
    ⟨(some 83), (some (79, true)), .pure, .mv (.tmp 8)⟩,
    ⟨(some 84), (some (79, true)), .pure, .mv (.tmp 10)⟩,
    ⟨(some 85), (some (79, true)), .pure, .sliceSl 4 (.tmp 83) none (some (.tmp 84)) none⟩,
    ⟨(some 86), (some (79, true)), .act, .call 17 [(.tmp 82), (.tmp 85)]⟩,
    ⟨(some 87), none, .pure, .pick (.tmp 79) (.tmp 86) (.const (.bool false))⟩,
    ⟨(some 88), none, .pure, .mv (.tmp 87)⟩,
    ⟨(some 89), (some (88, true)), .pure, .mv (.tmp 9)⟩,
    ⟨(some 90), (some (88, true)), .pure, .mv (.tmp 10)⟩,
    ⟨(some 91), (some (88, true)), .pure, .sliceSl 4 (.tmp 89) (some (.tmp 90)) none none⟩,
    ⟨(some 92), (some (88, true)), .pure, .mv (.tmp 2)⟩,
    ⟨(some 93), (some (88, true)), .act, .call 17 [(.tmp 91), (.tmp 92)]⟩,
    ⟨(some 94), none, .pure, .pick (.tmp 88) (.tmp 93) (.const (.bool false))⟩,
    ⟨(some 6), none, .pure, .mv (.tmp 94)⟩])
  .ret)))))))))))
theorem res3 : ∃ c, Try.f3.body = some c ∧ resCode Try.prog 95 c = some r3 := ⟨_, rfl, by kernel_rfl⟩
theorem rr3 : resRes Try.prog Try.f3.results.toList = some [.tmp 6] := by kernel_rfl
theorem keeps_loop (l : List Entry) (x : Entry) (r l2 : List Entry) (kk : Nat) (hkk : kk ≤ l.length) (hl : l.length ≤ 1000) (hlt' : ∀ j (hj : j < l.length), l[j].index.toNat < x.index.toNat ↔ j < kk) (h : AHeap) (k : List RT) (Q : AV → AHeap → Prop)
    (hk : RRun Try.prog Try.f3 95 k (Env.get [(10, i64 kk), (8, entries l), (2, entries (x :: r)), (9, entries l2)]) h Q) (m : Nat) :
    ∀ (i : Nat), i + m = kk → RRun Try.prog Try.f3 95 (.inLoop r3l0 :: .inBlock 0 :: k) (Env.get [(10, i64 i), (8, entries l), (2, entries (x :: r)), (9, entries l2)]) h Q := by
  have hlen0 : (l.map Entry.cells).length = l.length := by simp
  have hx : ((x :: r).map Entry.cells)[(0 : Int).toNat]? = some x.cells := rfl
  have hpos : 0 < ((x :: r).map Entry.cells).length := by simp
  induction m with
  | zero =>
    intro i hi
    refine RRun.inLoop ?_
    by_cases hie : i < l.length
    · have h1 : (l.map Entry.cells)[((i : Nat) : Int).toNat]? = some l[i].cells := by simp [hie]
      have h2 := hlt' i hie
      have h3 : ¬ l[i].index.toNat < x.index.toNat := fun e => by have := h2.1 e; omega
      repeat' (first
        | refine S.nilK ?_
        | (refine S.op rfl ?_; first
          | refine R.indexAddr rfl rfl (by omega) h1 ?_
          | refine R.indexAddr rfl rfl (by omega) hx ?_
          | refine R.mv rfl ?_
          | refine R.fieldAddr rfl ?_
          | refine R.fieldAddrR rfl ?_
          | refine R.nilCheck rfl ?_
          | refine R.nilCheckR rfl ?_
          | refine R.loadR rfl rfl ?_
          | refine R.load (by decide) rfl (by first | assumption | exact AHeap.set_same _ _ _ | exact AHeap.get_fresh (by assumption) (by first | assumption | exact AHeap.set_same _ _ _ | exact AHeap.get_fresh (by assumption) (by first | assumption | exact AHeap.set_same _ _ _ | exact AHeap.get_fresh (by assumption) (by first | assumption | exact AHeap.set_same _ _ _) | (refine (AHeap.set_other _ _ (by first | assumption | exact (AHeap.fresh_set (by assumption)).1 | exact Ne.symm (AHeap.fresh_set (by assumption)).1 | exact AHeap.ne_of (by assumption) (by assumption) | exact Ne.symm (AHeap.ne_of (by assumption) (by assumption)) | exact (AHeap.fresh_set (AHeap.fresh_set (by assumption)).2).1 | exact Ne.symm (AHeap.fresh_set (AHeap.fresh_set (by assumption)).2).1)).trans ?_; first | assumption | exact AHeap.set_same _ _ _)) | (refine (AHeap.set_other _ _ (by first | assumption | exact (AHeap.fresh_set (by assumption)).1 | exact Ne.symm (AHeap.fresh_set (by assumption)).1 | exact AHeap.ne_of (by assumption) (by assumption) | exact Ne.symm (AHeap.ne_of (by assumption) (by assumption)) | exact (AHeap.fresh_set (AHeap.fresh_set (by assumption)).2).1 | exact Ne.symm (AHeap.fresh_set (AHeap.fresh_set (by assumption)).2).1)).trans ?_; first | assumption | exact AHeap.set_same _ _ _ | exact AHeap.get_fresh (by assumption) (by first | assumption | exact AHeap.set_same _ _ _) | (refine (AHeap.set_other _ _ (by first | assumption | exact (AHeap.fresh_set (by assumption)).1 | exact Ne.symm (AHeap.fresh_set (by assumption)).1 | exact AHeap.ne_of (by assumption) (by assumption) | exact Ne.symm (AHeap.ne_of (by assumption) (by assumption)) | exact (AHeap.fresh_set (AHeap.fresh_set (by assumption)).2).1 | exact Ne.symm (AHeap.fresh_set (AHeap.fresh_set (by assumption)).2).1)).trans ?_; first | assumption | exact AHeap.set_same _ _ _))) | (refine (AHeap.set_other _ _ (by first | assumption | exact (AHeap.fresh_set (by assumption)).1 | exact Ne.symm (AHeap.fresh_set (by assumption)).1 | exact AHeap.ne_of (by assumption) (by assumption) | exact Ne.symm (AHeap.ne_of (by assumption) (by assumption)) | exact (AHeap.fresh_set (AHeap.fresh_set (by assumption)).2).1 | exact Ne.symm (AHeap.fresh_set (AHeap.fresh_set (by assumption)).2).1)).trans ?_; first | assumption | exact AHeap.set_same _ _ _ | exact AHeap.get_fresh (by assumption) (by first | assumption | exact AHeap.set_same _ _ _ | exact AHeap.get_fresh (by assumption) (by first | assumption | exact AHeap.set_same _ _ _) | (refine (AHeap.set_other _ _ (by first | assumption | exact (AHeap.fresh_set (by assumption)).1 | exact Ne.symm (AHeap.fresh_set (by assumption)).1 | exact AHeap.ne_of (by assumption) (by assumption) | exact Ne.symm (AHeap.ne_of (by assumption) (by assumption)) | exact (AHeap.fresh_set (AHeap.fresh_set (by assumption)).2).1 | exact Ne.symm (AHeap.fresh_set (AHeap.fresh_set (by assumption)).2).1)).trans ?_; first | assumption | exact AHeap.set_same _ _ _)) | (refine (AHeap.set_other _ _ (by first | assumption | exact (AHeap.fresh_set (by assumption)).1 | exact Ne.symm (AHeap.fresh_set (by assumption)).1 | exact AHeap.ne_of (by assumption) (by assumption) | exact Ne.symm (AHeap.ne_of (by assumption) (by assumption)) | exact (AHeap.fresh_set (AHeap.fresh_set (by assumption)).2).1 | exact Ne.symm (AHeap.fresh_set (AHeap.fresh_set (by assumption)).2).1)).trans ?_; first | assumption | exact AHeap.set_same _ _ _ | exact AHeap.get_fresh (by assumption) (by first | assumption | exact AHeap.set_same _ _ _) | (refine (AHeap.set_other _ _ (by first | assumption | exact (AHeap.fresh_set (by assumption)).1 | exact Ne.symm (AHeap.fresh_set (by assumption)).1 | exact AHeap.ne_of (by assumption) (by assumption) | exact Ne.symm (AHeap.ne_of (by assumption) (by assumption)) | exact (AHeap.fresh_set (AHeap.fresh_set (by assumption)).2).1 | exact Ne.symm (AHeap.fresh_set (AHeap.fresh_set (by assumption)).2).1)).trans ?_; first | assumption | exact AHeap.set_same _ _ _)))) rfl ?_
          | refine S.addI rfl rfl (by omega) ?_
          | refine S.subI rfl rfl (by omega) ?_
          | refine S.addU rfl rfl ?_
          | refine S.subU rfl rfl ?_
          | refine S.addUc rfl (by decide) ?_
          | refine S.subUc rfl (by decide) ?_
          | refine S.arith rfl rfl rfl ?_
          | refine R.pickT rfl rfl ?_
          | refine R.pickF rfl rfl ?_
          | refine R.len rfl ?_
          | refine R.lenA rfl ?_
          | refine R.lenStr rfl ?_
          | refine S.convIU rfl (by omega) ?_
          | refine S.convUI rfl (by omega) ?_
          | refine R.convInt rfl ?_
          | refine R.not rfl ?_
          | refine R.eqPtrNil rfl rfl ?_
          | refine R.extract rfl rfl ?_
          | refine R.field rfl rfl ?_
          | refine R.alloc rfl (fun b hb => ?_)
          | refine R.box rfl rfl rfl (fun b hb => ?_)
          | refine R.build rfl rfl ?_
          | refine R.buildSl rfl rfl rfl (by decide) ?_
          | refine R.toStr rfl ?_
          | refine R.convStr rfl ?_
          | refine R.minmax rfl ?_
          | refine R.makeFunc rfl rfl ?_
          | (first | refine S.lss rfl rfl (fun hlt => ?_) (fun hlt => by exfalso; omega) | refine S.lss rfl rfl (fun hlt => by exfalso; omega) (fun hlt => ?_) | refine S.lss rfl rfl (fun hlt => ?_) (fun hlt => ?_))
          | (first | refine S.gtr rfl rfl (fun hlt => ?_) (fun hlt => by exfalso; omega) | refine S.gtr rfl rfl (fun hlt => by exfalso; omega) (fun hlt => ?_) | refine S.gtr rfl rfl (fun hlt => ?_) (fun hlt => ?_))
          | (first | refine S.leq rfl rfl (fun hlt => ?_) (fun hlt => by exfalso; omega) | refine S.leq rfl rfl (fun hlt => by exfalso; omega) (fun hlt => ?_) | refine S.leq rfl rfl (fun hlt => ?_) (fun hlt => ?_))
          | (first | refine S.geq rfl rfl (fun hlt => ?_) (fun hlt => by exfalso; omega) | refine S.geq rfl rfl (fun hlt => by exfalso; omega) (fun hlt => ?_) | refine S.geq rfl rfl (fun hlt => ?_) (fun hlt => ?_))
          | (first | refine S.eqInt rfl rfl (fun hlt => ?_) (fun hlt => by exfalso; omega) | refine S.eqInt rfl rfl (fun hlt => by exfalso; omega) (fun hlt => ?_) | refine S.eqInt rfl rfl (fun hlt => ?_) (fun hlt => ?_)))
        | (refine S.op0 rfl ?_; first | refine S.store rfl rfl (by first | assumption | exact AHeap.set_same _ _ _ | exact AHeap.get_fresh (by assumption) (by first | assumption | exact AHeap.set_same _ _ _ | exact AHeap.get_fresh (by assumption) (by first | assumption | exact AHeap.set_same _ _ _ | exact AHeap.get_fresh (by assumption) (by first | assumption | exact AHeap.set_same _ _ _) | (refine (AHeap.set_other _ _ (by first | assumption | exact (AHeap.fresh_set (by assumption)).1 | exact Ne.symm (AHeap.fresh_set (by assumption)).1 | exact AHeap.ne_of (by assumption) (by assumption) | exact Ne.symm (AHeap.ne_of (by assumption) (by assumption)) | exact (AHeap.fresh_set (AHeap.fresh_set (by assumption)).2).1 | exact Ne.symm (AHeap.fresh_set (AHeap.fresh_set (by assumption)).2).1)).trans ?_; first | assumption | exact AHeap.set_same _ _ _)) | (refine (AHeap.set_other _ _ (by first | assumption | exact (AHeap.fresh_set (by assumption)).1 | exact Ne.symm (AHeap.fresh_set (by assumption)).1 | exact AHeap.ne_of (by assumption) (by assumption) | exact Ne.symm (AHeap.ne_of (by assumption) (by assumption)) | exact (AHeap.fresh_set (AHeap.fresh_set (by assumption)).2).1 | exact Ne.symm (AHeap.fresh_set (AHeap.fresh_set (by assumption)).2).1)).trans ?_; first | assumption | exact AHeap.set_same _ _ _ | exact AHeap.get_fresh (by assumption) (by first | assumption | exact AHeap.set_same _ _ _) | (refine (AHeap.set_other _ _ (by first | assumption | exact (AHeap.fresh_set (by assumption)).1 | exact Ne.symm (AHeap.fresh_set (by assumption)).1 | exact AHeap.ne_of (by assumption) (by assumption) | exact Ne.symm (AHeap.ne_of (by assumption) (by assumption)) | exact (AHeap.fresh_set (AHeap.fresh_set (by assumption)).2).1 | exact Ne.symm (AHeap.fresh_set (AHeap.fresh_set (by assumption)).2).1)).trans ?_; first | assumption | exact AHeap.set_same _ _ _))) | (refine (AHeap.set_other _ _ (by first | assumption | exact (AHeap.fresh_set (by assumption)).1 | exact Ne.symm (AHeap.fresh_set (by assumption)).1 | exact AHeap.ne_of (by assumption) (by assumption) | exact Ne.symm (AHeap.ne_of (by assumption) (by assumption)) | exact (AHeap.fresh_set (AHeap.fresh_set (by assumption)).2).1 | exact Ne.symm (AHeap.fresh_set (AHeap.fresh_set (by assumption)).2).1)).trans ?_; first | assumption | exact AHeap.set_same _ _ _ | exact AHeap.get_fresh (by assumption) (by first | assumption | exact AHeap.set_same _ _ _ | exact AHeap.get_fresh (by assumption) (by first | assumption | exact AHeap.set_same _ _ _) | (refine (AHeap.set_other _ _ (by first | assumption | exact (AHeap.fresh_set (by assumption)).1 | exact Ne.symm (AHeap.fresh_set (by assumption)).1 | exact AHeap.ne_of (by assumption) (by assumption) | exact Ne.symm (AHeap.ne_of (by assumption) (by assumption)) | exact (AHeap.fresh_set (AHeap.fresh_set (by assumption)).2).1 | exact Ne.symm (AHeap.fresh_set (AHeap.fresh_set (by assumption)).2).1)).trans ?_; first | assumption | exact AHeap.set_same _ _ _)) | (refine (AHeap.set_other _ _ (by first | assumption | exact (AHeap.fresh_set (by assumption)).1 | exact Ne.symm (AHeap.fresh_set (by assumption)).1 | exact AHeap.ne_of (by assumption) (by assumption) | exact Ne.symm (AHeap.ne_of (by assumption) (by assumption)) | exact (AHeap.fresh_set (AHeap.fresh_set (by assumption)).2).1 | exact Ne.symm (AHeap.fresh_set (AHeap.fresh_set (by assumption)).2).1)).trans ?_; first | assumption | exact AHeap.set_same _ _ _ | exact AHeap.get_fresh (by assumption) (by first | assumption | exact AHeap.set_same _ _ _) | (refine (AHeap.set_other _ _ (by first | assumption | exact (AHeap.fresh_set (by assumption)).1 | exact Ne.symm (AHeap.fresh_set (by assumption)).1 | exact AHeap.ne_of (by assumption) (by assumption) | exact Ne.symm (AHeap.ne_of (by assumption) (by assumption)) | exact (AHeap.fresh_set (AHeap.fresh_set (by assumption)).2).1 | exact Ne.symm (AHeap.fresh_set (AHeap.fresh_set (by assumption)).2).1)).trans ?_; first | assumption | exact AHeap.set_same _ _ _)))) rfl rfl rfl (by rfl) rfl ?_)
        | refine S.skip rfl ?_
        | refine S.skip0 rfl ?_
        | refine S.seq ?_
        | refine S.region ?_
        | refine S.condT rfl ?_
        | refine S.condF rfl ?_
        | refine RRun.skip ?_
        | refine RRun.block ?_
        | refine RRun.inBlock ?_
        | refine RRun.exit rfl ?_)
      obtain rfl : i = kk := by omega
      exact S.keep [10, 8, 2, 9] rfl hk
    ·
      repeat' (first
        | refine S.nilK ?_
        | (refine S.op rfl ?_; first
          | refine R.mv rfl ?_
          | refine R.fieldAddr rfl ?_
          | refine R.fieldAddrR rfl ?_
          | refine R.nilCheck rfl ?_
          | refine R.nilCheckR rfl ?_
          | refine R.loadR rfl rfl ?_
          | refine R.load (by decide) rfl (by first | assumption | exact AHeap.set_same _ _ _ | exact AHeap.get_fresh (by assumption) (by first | assumption | exact AHeap.set_same _ _ _ | exact AHeap.get_fresh (by assumption) (by first | assumption | exact AHeap.set_same _ _ _ | exact AHeap.get_fresh (by assumption) (by first | assumption | exact AHeap.set_same _ _ _) | (refine (AHeap.set_other _ _ (by first | assumption | exact (AHeap.fresh_set (by assumption)).1 | exact Ne.symm (AHeap.fresh_set (by assumption)).1 | exact AHeap.ne_of (by assumption) (by assumption) | exact Ne.symm (AHeap.ne_of (by assumption) (by assumption)) | exact (AHeap.fresh_set (AHeap.fresh_set (by assumption)).2).1 | exact Ne.symm (AHeap.fresh_set (AHeap.fresh_set (by assumption)).2).1)).trans ?_; first | assumption | exact AHeap.set_same _ _ _)) | (refine (AHeap.set_other _ _ (by first | assumption | exact (AHeap.fresh_set (by assumption)).1 | exact Ne.symm (AHeap.fresh_set (by assumption)).1 | exact AHeap.ne_of (by assumption) (by assumption) | exact Ne.symm (AHeap.ne_of (by assumption) (by assumption)) | exact (AHeap.fresh_set (AHeap.fresh_set (by assumption)).2).1 | exact Ne.symm (AHeap.fresh_set (AHeap.fresh_set (by assumption)).2).1)).trans ?_; first | assumption | exact AHeap.set_same _ _ _ | exact AHeap.get_fresh (by assumption) (by first | assumption | exact AHeap.set_same _ _ _) | (refine (AHeap.set_other _ _ (by first | assumption | exact (AHeap.fresh_set (by assumption)).1 | exact Ne.symm (AHeap.fresh_set (by assumption)).1 | exact AHeap.ne_of (by assumption) (by assumption) | exact Ne.symm (AHeap.ne_of (by assumption) (by assumption)) | exact (AHeap.fresh_set (AHeap.fresh_set (by assumption)).2).1 | exact Ne.symm (AHeap.fresh_set (AHeap.fresh_set (by assumption)).2).1)).trans ?_; first | assumption | exact AHeap.set_same _ _ _))) | (refine (AHeap.set_other _ _ (by first | assumption | exact (AHeap.fresh_set (by assumption)).1 | exact Ne.symm (AHeap.fresh_set (by assumption)).1 | exact AHeap.ne_of (by assumption) (by assumption) | exact Ne.symm (AHeap.ne_of (by assumption) (by assumption)) | exact (AHeap.fresh_set (AHeap.fresh_set (by assumption)).2).1 | exact Ne.symm (AHeap.fresh_set (AHeap.fresh_set (by assumption)).2).1)).trans ?_; first | assumption | exact AHeap.set_same _ _ _ | exact AHeap.get_fresh (by assumption) (by first | assumption | exact AHeap.set_same _ _ _ | exact AHeap.get_fresh (by assumption) (by first | assumption | exact AHeap.set_same _ _ _) | (refine (AHeap.set_other _ _ (by first | assumption | exact (AHeap.fresh_set (by assumption)).1 | exact Ne.symm (AHeap.fresh_set (by assumption)).1 | exact AHeap.ne_of (by assumption) (by assumption) | exact Ne.symm (AHeap.ne_of (by assumption) (by assumption)) | exact (AHeap.fresh_set (AHeap.fresh_set (by assumption)).2).1 | exact Ne.symm (AHeap.fresh_set (AHeap.fresh_set (by assumption)).2).1)).trans ?_; first | assumption | exact AHeap.set_same _ _ _)) | (refine (AHeap.set_other _ _ (by first | assumption | exact (AHeap.fresh_set (by assumption)).1 | exact Ne.symm (AHeap.fresh_set (by assumption)).1 | exact AHeap.ne_of (by assumption) (by assumption) | exact Ne.symm (AHeap.ne_of (by assumption) (by assumption)) | exact (AHeap.fresh_set (AHeap.fresh_set (by assumption)).2).1 | exact Ne.symm (AHeap.fresh_set (AHeap.fresh_set (by assumption)).2).1)).trans ?_; first | assumption | exact AHeap.set_same _ _ _ | exact AHeap.get_fresh (by assumption) (by first | assumption | exact AHeap.set_same _ _ _) | (refine (AHeap.set_other _ _ (by first | assumption | exact (AHeap.fresh_set (by assumption)).1 | exact Ne.symm (AHeap.fresh_set (by assumption)).1 | exact AHeap.ne_of (by assumption) (by assumption) | exact Ne.symm (AHeap.ne_of (by assumption) (by assumption)) | exact (AHeap.fresh_set (AHeap.fresh_set (by assumption)).2).1 | exact Ne.symm (AHeap.fresh_set (AHeap.fresh_set (by assumption)).2).1)).trans ?_; first | assumption | exact AHeap.set_same _ _ _)))) rfl ?_
          | refine S.addI rfl rfl (by omega) ?_
          | refine S.subI rfl rfl (by omega) ?_
          | refine S.addU rfl rfl ?_
          | refine S.subU rfl rfl ?_
          | refine S.addUc rfl (by decide) ?_
          | refine S.subUc rfl (by decide) ?_
          | refine S.arith rfl rfl rfl ?_
          | refine R.pickT rfl rfl ?_
          | refine R.pickF rfl rfl ?_
          | refine R.len rfl ?_
          | refine R.lenA rfl ?_
          | refine R.lenStr rfl ?_
          | refine S.convIU rfl (by omega) ?_
          | refine S.convUI rfl (by omega) ?_
          | refine R.convInt rfl ?_
          | refine R.not rfl ?_
          | refine R.eqPtrNil rfl rfl ?_
          | refine R.extract rfl rfl ?_
          | refine R.field rfl rfl ?_
          | refine R.alloc rfl (fun b hb => ?_)
          | refine R.box rfl rfl rfl (fun b hb => ?_)
          | refine R.build rfl rfl ?_
          | refine R.buildSl rfl rfl rfl (by decide) ?_
          | refine R.toStr rfl ?_
          | refine R.convStr rfl ?_
          | refine R.minmax rfl ?_
          | refine R.makeFunc rfl rfl ?_
          | (first | refine S.lss rfl rfl (fun hlt => ?_) (fun hlt => by exfalso; omega) | refine S.lss rfl rfl (fun hlt => by exfalso; omega) (fun hlt => ?_) | refine S.lss rfl rfl (fun hlt => ?_) (fun hlt => ?_))
          | (first | refine S.gtr rfl rfl (fun hlt => ?_) (fun hlt => by exfalso; omega) | refine S.gtr rfl rfl (fun hlt => by exfalso; omega) (fun hlt => ?_) | refine S.gtr rfl rfl (fun hlt => ?_) (fun hlt => ?_))
          | (first | refine S.leq rfl rfl (fun hlt => ?_) (fun hlt => by exfalso; omega) | refine S.leq rfl rfl (fun hlt => by exfalso; omega) (fun hlt => ?_) | refine S.leq rfl rfl (fun hlt => ?_) (fun hlt => ?_))
          | (first | refine S.geq rfl rfl (fun hlt => ?_) (fun hlt => by exfalso; omega) | refine S.geq rfl rfl (fun hlt => by exfalso; omega) (fun hlt => ?_) | refine S.geq rfl rfl (fun hlt => ?_) (fun hlt => ?_))
          | (first | refine S.eqInt rfl rfl (fun hlt => ?_) (fun hlt => by exfalso; omega) | refine S.eqInt rfl rfl (fun hlt => by exfalso; omega) (fun hlt => ?_) | refine S.eqInt rfl rfl (fun hlt => ?_) (fun hlt => ?_)))
        | (refine S.op0 rfl ?_; first | refine S.store rfl rfl (by first | assumption | exact AHeap.set_same _ _ _ | exact AHeap.get_fresh (by assumption) (by first | assumption | exact AHeap.set_same _ _ _ | exact AHeap.get_fresh (by assumption) (by first | assumption | exact AHeap.set_same _ _ _ | exact AHeap.get_fresh (by assumption) (by first | assumption | exact AHeap.set_same _ _ _) | (refine (AHeap.set_other _ _ (by first | assumption | exact (AHeap.fresh_set (by assumption)).1 | exact Ne.symm (AHeap.fresh_set (by assumption)).1 | exact AHeap.ne_of (by assumption) (by assumption) | exact Ne.symm (AHeap.ne_of (by assumption) (by assumption)) | exact (AHeap.fresh_set (AHeap.fresh_set (by assumption)).2).1 | exact Ne.symm (AHeap.fresh_set (AHeap.fresh_set (by assumption)).2).1)).trans ?_; first | assumption | exact AHeap.set_same _ _ _)) | (refine (AHeap.set_other _ _ (by first | assumption | exact (AHeap.fresh_set (by assumption)).1 | exact Ne.symm (AHeap.fresh_set (by assumption)).1 | exact AHeap.ne_of (by assumption) (by assumption) | exact Ne.symm (AHeap.ne_of (by assumption) (by assumption)) | exact (AHeap.fresh_set (AHeap.fresh_set (by assumption)).2).1 | exact Ne.symm (AHeap.fresh_set (AHeap.fresh_set (by assumption)).2).1)).trans ?_; first | assumption | exact AHeap.set_same _ _ _ | exact AHeap.get_fresh (by assumption) (by first | assumption | exact AHeap.set_same _ _ _) | (refine (AHeap.set_other _ _ (by first | assumption | exact (AHeap.fresh_set (by assumption)).1 | exact Ne.symm (AHeap.fresh_set (by assumption)).1 | exact AHeap.ne_of (by assumption) (by assumption) | exact Ne.symm (AHeap.ne_of (by assumption) (by assumption)) | exact (AHeap.fresh_set (AHeap.fresh_set (by assumption)).2).1 | exact Ne.symm (AHeap.fresh_set (AHeap.fresh_set (by assumption)).2).1)).trans ?_; first | assumption | exact AHeap.set_same _ _ _))) | (refine (AHeap.set_other _ _ (by first | assumption | exact (AHeap.fresh_set (by assumption)).1 | exact Ne.symm (AHeap.fresh_set (by assumption)).1 | exact AHeap.ne_of (by assumption) (by assumption) | exact Ne.symm (AHeap.ne_of (by assumption) (by assumption)) | exact (AHeap.fresh_set (AHeap.fresh_set (by assumption)).2).1 | exact Ne.symm (AHeap.fresh_set (AHeap.fresh_set (by assumption)).2).1)).trans ?_; first | assumption | exact AHeap.set_same _ _ _ | exact AHeap.get_fresh (by assumption) (by first | assumption | exact AHeap.set_same _ _ _ | exact AHeap.get_fresh (by assumption) (by first | assumption | exact AHeap.set_same _ _ _) | (refine (AHeap.set_other _ _ (by first | assumption | exact (AHeap.fresh_set (by assumption)).1 | exact Ne.symm (AHeap.fresh_set (by assumption)).1 | exact AHeap.ne_of (by assumption) (by assumption) | exact Ne.symm (AHeap.ne_of (by assumption) (by assumption)) | exact (AHeap.fresh_set (AHeap.fresh_set (by assumption)).2).1 | exact Ne.symm (AHeap.fresh_set (AHeap.fresh_set (by assumption)).2).1)).trans ?_; first | assumption | exact AHeap.set_same _ _ _)) | (refine (AHeap.set_other _ _ (by first | assumption | exact (AHeap.fresh_set (by assumption)).1 | exact Ne.symm (AHeap.fresh_set (by assumption)).1 | exact AHeap.ne_of (by assumption) (by assumption) | exact Ne.symm (AHeap.ne_of (by assumption) (by assumption)) | exact (AHeap.fresh_set (AHeap.fresh_set (by assumption)).2).1 | exact Ne.symm (AHeap.fresh_set (AHeap.fresh_set (by assumption)).2).1)).trans ?_; first | assumption | exact AHeap.set_same _ _ _ | exact AHeap.get_fresh (by assumption) (by first | assumption | exact AHeap.set_same _ _ _) | (refine (AHeap.set_other _ _ (by first | assumption | exact (AHeap.fresh_set (by assumption)).1 | exact Ne.symm (AHeap.fresh_set (by assumption)).1 | exact AHeap.ne_of (by assumption) (by assumption) | exact Ne.symm (AHeap.ne_of (by assumption) (by assumption)) | exact (AHeap.fresh_set (AHeap.fresh_set (by assumption)).2).1 | exact Ne.symm (AHeap.fresh_set (AHeap.fresh_set (by assumption)).2).1)).trans ?_; first | assumption | exact AHeap.set_same _ _ _)))) rfl rfl rfl (by rfl) rfl ?_)
        | refine S.skip rfl ?_
        | refine S.skip0 rfl ?_
        | refine S.seq ?_
        | refine S.region ?_
        | refine S.condT rfl ?_
        | refine S.condF rfl ?_
        | refine RRun.skip ?_
        | refine RRun.block ?_
        | refine RRun.inBlock ?_
        | refine RRun.exit rfl ?_)
      obtain rfl : i = kk := by omega
      exact S.keep [10, 8, 2, 9] rfl hk
  | succ m ih =>
    intro i hi
    have hie : i < l.length := by omega
    have h1 : (l.map Entry.cells)[((i : Nat) : Int).toNat]? = some l[i].cells := by simp [hie]
    have h3 := (hlt' i hie).2 (by omega)
    refine RRun.inLoop ?_
    repeat' (first
      | refine S.nilK ?_
      | (refine S.op rfl ?_; first
        | refine R.indexAddr rfl rfl (by omega) h1 ?_
        | refine R.indexAddr rfl rfl (by omega) hx ?_
        | refine R.mv rfl ?_
        | refine R.fieldAddr rfl ?_
        | refine R.fieldAddrR rfl ?_
        | refine R.nilCheck rfl ?_
        | refine R.nilCheckR rfl ?_
        | refine R.loadR rfl rfl ?_
        | refine R.load (by decide) rfl (by first | assumption | exact AHeap.set_same _ _ _ | exact AHeap.get_fresh (by assumption) (by first | assumption | exact AHeap.set_same _ _ _ | exact AHeap.get_fresh (by assumption) (by first | assumption | exact AHeap.set_same _ _ _ | exact AHeap.get_fresh (by assumption) (by first | assumption | exact AHeap.set_same _ _ _) | (refine (AHeap.set_other _ _ (by first | assumption | exact (AHeap.fresh_set (by assumption)).1 | exact Ne.symm (AHeap.fresh_set (by assumption)).1 | exact AHeap.ne_of (by assumption) (by assumption) | exact Ne.symm (AHeap.ne_of (by assumption) (by assumption)) | exact (AHeap.fresh_set (AHeap.fresh_set (by assumption)).2).1 | exact Ne.symm (AHeap.fresh_set (AHeap.fresh_set (by assumption)).2).1)).trans ?_; first | assumption | exact AHeap.set_same _ _ _)) | (refine (AHeap.set_other _ _ (by first | assumption | exact (AHeap.fresh_set (by assumption)).1 | exact Ne.symm (AHeap.fresh_set (by assumption)).1 | exact AHeap.ne_of (by assumption) (by assumption) | exact Ne.symm (AHeap.ne_of (by assumption) (by assumption)) | exact (AHeap.fresh_set (AHeap.fresh_set (by assumption)).2).1 | exact Ne.symm (AHeap.fresh_set (AHeap.fresh_set (by assumption)).2).1)).trans ?_; first | assumption | exact AHeap.set_same _ _ _ | exact AHeap.get_fresh (by assumption) (by first | assumption | exact AHeap.set_same _ _ _) | (refine (AHeap.set_other _ _ (by first | assumption | exact (AHeap.fresh_set (by assumption)).1 | exact Ne.symm (AHeap.fresh_set (by assumption)).1 | exact AHeap.ne_of (by assumption) (by assumption) | exact Ne.symm (AHeap.ne_of (by assumption) (by assumption)) | exact (AHeap.fresh_set (AHeap.fresh_set (by assumption)).2).1 | exact Ne.symm (AHeap.fresh_set (AHeap.fresh_set (by assumption)).2).1)).trans ?_; first | assumption | exact AHeap.set_same _ _ _))) | (refine (AHeap.set_other _ _ (by first | assumption | exact (AHeap.fresh_set (by assumption)).1 | exact Ne.symm (AHeap.fresh_set (by assumption)).1 | exact AHeap.ne_of (by assumption) (by assumption) | exact Ne.symm (AHeap.ne_of (by assumption) (by assumption)) | exact (AHeap.fresh_set (AHeap.fresh_set (by assumption)).2).1 | exact Ne.symm (AHeap.fresh_set (AHeap.fresh_set (by assumption)).2).1)).trans ?_; first | assumption | exact AHeap.set_same _ _ _ | exact AHeap.get_fresh (by assumption) (by first | assumption | exact AHeap.set_same _ _ _ | exact AHeap.get_fresh (by assumption) (by first | assumption | exact AHeap.set_same _ _ _) | (refine (AHeap.set_other _ _ (by first | assumption | exact (AHeap.fresh_set (by assumption)).1 | exact Ne.symm (AHeap.fresh_set (by assumption)).1 | exact AHeap.ne_of (by assumption) (by assumption) | exact Ne.symm (AHeap.ne_of (by assumption) (by assumption)) | exact (AHeap.fresh_set (AHeap.fresh_set (by assumption)).2).1 | exact Ne.symm (AHeap.fresh_set (AHeap.fresh_set (by assumption)).2).1)).trans ?_; first | assumption | exact AHeap.set_same _ _ _)) | (refine (AHeap.set_other _ _ (by first | assumption | exact (AHeap.fresh_set (by assumption)).1 | exact Ne.symm (AHeap.fresh_set (by assumption)).1 | exact AHeap.ne_of (by assumption) (by assumption) | exact Ne.symm (AHeap.ne_of (by assumption) (by assumption)) | exact (AHeap.fresh_set (AHeap.fresh_set (by assumption)).2).1 | exact Ne.symm (AHeap.fresh_set (AHeap.fresh_set (by assumption)).2).1)).trans ?_; first | assumption | exact AHeap.set_same _ _ _ | exact AHeap.get_fresh (by assumption) (by first | assumption | exact AHeap.set_same _ _ _) | (refine (AHeap.set_other _ _ (by first | assumption | exact (AHeap.fresh_set (by assumption)).1 | exact Ne.symm (AHeap.fresh_set (by assumption)).1 | exact AHeap.ne_of (by assumption) (by assumption) | exact Ne.symm (AHeap.ne_of (by assumption) (by assumption)) | exact (AHeap.fresh_set (AHeap.fresh_set (by assumption)).2).1 | exact Ne.symm (AHeap.fresh_set (AHeap.fresh_set (by assumption)).2).1)).trans ?_; first | assumption | exact AHeap.set_same _ _ _)))) rfl ?_
        | refine S.addI rfl rfl (by omega) ?_
        | refine S.subI rfl rfl (by omega) ?_
        | refine S.addU rfl rfl ?_
        | refine S.subU rfl rfl ?_
        | refine S.addUc rfl (by decide) ?_
        | refine S.subUc rfl (by decide) ?_
        | refine S.arith rfl rfl rfl ?_
        | refine R.pickT rfl rfl ?_
        | refine R.pickF rfl rfl ?_
        | refine R.len rfl ?_
        | refine R.lenA rfl ?_
        | refine R.lenStr rfl ?_
        | refine S.convIU rfl (by omega) ?_
        | refine S.convUI rfl (by omega) ?_
        | refine R.convInt rfl ?_
        | refine R.not rfl ?_
        | refine R.eqPtrNil rfl rfl ?_
        | refine R.extract rfl rfl ?_
        | refine R.field rfl rfl ?_
        | refine R.alloc rfl (fun b hb => ?_)
        | refine R.box rfl rfl rfl (fun b hb => ?_)
        | refine R.build rfl rfl ?_
        | refine R.buildSl rfl rfl rfl (by decide) ?_
        | refine R.toStr rfl ?_
        | refine R.convStr rfl ?_
        | refine R.minmax rfl ?_
        | refine R.makeFunc rfl rfl ?_
        | (first | refine S.lss rfl rfl (fun hlt => ?_) (fun hlt => by exfalso; omega) | refine S.lss rfl rfl (fun hlt => by exfalso; omega) (fun hlt => ?_) | refine S.lss rfl rfl (fun hlt => ?_) (fun hlt => ?_))
        | (first | refine S.gtr rfl rfl (fun hlt => ?_) (fun hlt => by exfalso; omega) | refine S.gtr rfl rfl (fun hlt => by exfalso; omega) (fun hlt => ?_) | refine S.gtr rfl rfl (fun hlt => ?_) (fun hlt => ?_))
        | (first | refine S.leq rfl rfl (fun hlt => ?_) (fun hlt => by exfalso; omega) | refine S.leq rfl rfl (fun hlt => by exfalso; omega) (fun hlt => ?_) | refine S.leq rfl rfl (fun hlt => ?_) (fun hlt => ?_))
        | (first | refine S.geq rfl rfl (fun hlt => ?_) (fun hlt => by exfalso; omega) | refine S.geq rfl rfl (fun hlt => by exfalso; omega) (fun hlt => ?_) | refine S.geq rfl rfl (fun hlt => ?_) (fun hlt => ?_))
        | (first | refine S.eqInt rfl rfl (fun hlt => ?_) (fun hlt => by exfalso; omega) | refine S.eqInt rfl rfl (fun hlt => by exfalso; omega) (fun hlt => ?_) | refine S.eqInt rfl rfl (fun hlt => ?_) (fun hlt => ?_)))
      | (refine S.op0 rfl ?_; first | refine S.store rfl rfl (by first | assumption | exact AHeap.set_same _ _ _ | exact AHeap.get_fresh (by assumption) (by first | assumption | exact AHeap.set_same _ _ _ | exact AHeap.get_fresh (by assumption) (by first | assumption | exact AHeap.set_same _ _ _ | exact AHeap.get_fresh (by assumption) (by first | assumption | exact AHeap.set_same _ _ _) | (refine (AHeap.set_other _ _ (by first | assumption | exact (AHeap.fresh_set (by assumption)).1 | exact Ne.symm (AHeap.fresh_set (by assumption)).1 | exact AHeap.ne_of (by assumption) (by assumption) | exact Ne.symm (AHeap.ne_of (by assumption) (by assumption)) | exact (AHeap.fresh_set (AHeap.fresh_set (by assumption)).2).1 | exact Ne.symm (AHeap.fresh_set (AHeap.fresh_set (by assumption)).2).1)).trans ?_; first | assumption | exact AHeap.set_same _ _ _)) | (refine (AHeap.set_other _ _ (by first | assumption | exact (AHeap.fresh_set (by assumption)).1 | exact Ne.symm (AHeap.fresh_set (by assumption)).1 | exact AHeap.ne_of (by assumption) (by assumption) | exact Ne.symm (AHeap.ne_of (by assumption) (by assumption)) | exact (AHeap.fresh_set (AHeap.fresh_set (by assumption)).2).1 | exact Ne.symm (AHeap.fresh_set (AHeap.fresh_set (by assumption)).2).1)).trans ?_; first | assumption | exact AHeap.set_same _ _ _ | exact AHeap.get_fresh (by assumption) (by first | assumption | exact AHeap.set_same _ _ _) | (refine (AHeap.set_other _ _ (by first | assumption | exact (AHeap.fresh_set (by assumption)).1 | exact Ne.symm (AHeap.fresh_set (by assumption)).1 | exact AHeap.ne_of (by assumption) (by assumption) | exact Ne.symm (AHeap.ne_of (by assumption) (by assumption)) | exact (AHeap.fresh_set (AHeap.fresh_set (by assumption)).2).1 | exact Ne.symm (AHeap.fresh_set (AHeap.fresh_set (by assumption)).2).1)).trans ?_; first | assumption | exact AHeap.set_same _ _ _))) | (refine (AHeap.set_other _ _ (by first | assumption | exact (AHeap.fresh_set (by assumption)).1 | exact Ne.symm (AHeap.fresh_set (by assumption)).1 | exact AHeap.ne_of (by assumption) (by assumption) | exact Ne.symm (AHeap.ne_of (by assumption) (by assumption)) | exact (AHeap.fresh_set (AHeap.fresh_set (by assumption)).2).1 | exact Ne.symm (AHeap.fresh_set (AHeap.fresh_set (by assumption)).2).1)).trans ?_; first | assumption | exact AHeap.set_same _ _ _ | exact AHeap.get_fresh (by assumption) (by first | assumption | exact AHeap.set_same _ _ _ | exact AHeap.get_fresh (by assumption) (by first | assumption | exact AHeap.set_same _ _ _) | (refine (AHeap.set_other _ _ (by first | assumption | exact (AHeap.fresh_set (by assumption)).1 | exact Ne.symm (AHeap.fresh_set (by assumption)).1 | exact AHeap.ne_of (by assumption) (by assumption) | exact Ne.symm (AHeap.ne_of (by assumption) (by assumption)) | exact (AHeap.fresh_set (AHeap.fresh_set (by assumption)).2).1 | exact Ne.symm (AHeap.fresh_set (AHeap.fresh_set (by assumption)).2).1)).trans ?_; first | assumption | exact AHeap.set_same _ _ _)) | (refine (AHeap.set_other _ _ (by first | assumption | exact (AHeap.fresh_set (by assumption)).1 | exact Ne.symm (AHeap.fresh_set (by assumption)).1 | exact AHeap.ne_of (by assumption) (by assumption) | exact Ne.symm (AHeap.ne_of (by assumption) (by assumption)) | exact (AHeap.fresh_set (AHeap.fresh_set (by assumption)).2).1 | exact Ne.symm (AHeap.fresh_set (AHeap.fresh_set (by assumption)).2).1)).trans ?_; first | assumption | exact AHeap.set_same _ _ _ | exact AHeap.get_fresh (by assumption) (by first | assumption | exact AHeap.set_same _ _ _) | (refine (AHeap.set_other _ _ (by first | assumption | exact (AHeap.fresh_set (by assumption)).1 | exact Ne.symm (AHeap.fresh_set (by assumption)).1 | exact AHeap.ne_of (by assumption) (by assumption) | exact Ne.symm (AHeap.ne_of (by assumption) (by assumption)) | exact (AHeap.fresh_set (AHeap.fresh_set (by assumption)).2).1 | exact Ne.symm (AHeap.fresh_set (AHeap.fresh_set (by assumption)).2).1)).trans ?_; first | assumption | exact AHeap.set_same _ _ _)))) rfl rfl rfl (by rfl) rfl ?_)
      | refine S.skip rfl ?_
      | refine S.skip0 rfl ?_
      | refine S.seq ?_
      | refine S.region ?_
      | refine S.condT rfl ?_
      | refine S.condF rfl ?_
      | refine RRun.skip ?_
      | refine RRun.block ?_
      | refine RRun.inBlock ?_
      | refine RRun.exit rfl ?_)
    rw [show ((i : Int) + 1) = ((i + 1 : Nat) : Int) by omega]
    exact S.keep [10, 8, 2, 9] rfl (ih (i + 1) (by omega))

theorem copied_far (s : Snap) : s.copied.index ≤ far := by
  show (if far < s.index then far else s.index) ≤ far
  split
  · exact UInt64.le_refl _
  · next h => exact UInt64.le_iff_toNat_le.2 (Nat.le_of_not_lt fun e => h (UInt64.lt_iff_toNat_lt.2 e))

/-- The walk: the law answers true. -/
theorem keeps_spec (s : Snap) (l m : List Entry) (hl : l.length ≤ 9223372036854775807) (hm : m.length ≤ 9223372036854775807) (h : AHeap) :
    ACalls Try.prog 3 [.ag s.cells, entries l, entries m] h (fun x h' => x = bl true ∧ h' = h) := by
  have hlenm : (m.map Entry.cells).length = m.length := by simp
  obtain ⟨c, hc1, hc2⟩ := res3
  refine ACalls.weak (ACalls.enter Try.func3 hc1 Try.ntmps3 hc2 (Nat.le_of_ble_eq_true rfl) rfl ?_)
  have c1 := smallSnap_spec s
  have c2 := small_spec l hl
  have c3 := small_spec m hm
  cases hs1 : s.small with
  | false =>
    rw [hs1] at c1
    repeat' (first
      | refine S.nilK ?_
      | (refine S.op rfl ?_; first
        | refine R.callQ (by decide) rfl (awake_spec _) ?_
        | refine R.callQ (by decide) rfl (c1 _) ?_
        | refine R.mv rfl ?_
        | refine R.fieldAddr rfl ?_
        | refine R.fieldAddrR rfl ?_
        | refine R.nilCheck rfl ?_
        | refine R.nilCheckR rfl ?_
        | refine R.loadR rfl rfl ?_
        | refine R.load (by decide) rfl (by first | assumption | exact AHeap.set_same _ _ _ | exact AHeap.get_fresh (by assumption) (by first | assumption | exact AHeap.set_same _ _ _ | exact AHeap.get_fresh (by assumption) (by first | assumption | exact AHeap.set_same _ _ _ | exact AHeap.get_fresh (by assumption) (by first | assumption | exact AHeap.set_same _ _ _) | (refine (AHeap.set_other _ _ (by first | assumption | exact (AHeap.fresh_set (by assumption)).1 | exact Ne.symm (AHeap.fresh_set (by assumption)).1 | exact AHeap.ne_of (by assumption) (by assumption) | exact Ne.symm (AHeap.ne_of (by assumption) (by assumption)) | exact (AHeap.fresh_set (AHeap.fresh_set (by assumption)).2).1 | exact Ne.symm (AHeap.fresh_set (AHeap.fresh_set (by assumption)).2).1)).trans ?_; first | assumption | exact AHeap.set_same _ _ _)) | (refine (AHeap.set_other _ _ (by first | assumption | exact (AHeap.fresh_set (by assumption)).1 | exact Ne.symm (AHeap.fresh_set (by assumption)).1 | exact AHeap.ne_of (by assumption) (by assumption) | exact Ne.symm (AHeap.ne_of (by assumption) (by assumption)) | exact (AHeap.fresh_set (AHeap.fresh_set (by assumption)).2).1 | exact Ne.symm (AHeap.fresh_set (AHeap.fresh_set (by assumption)).2).1)).trans ?_; first | assumption | exact AHeap.set_same _ _ _ | exact AHeap.get_fresh (by assumption) (by first | assumption | exact AHeap.set_same _ _ _) | (refine (AHeap.set_other _ _ (by first | assumption | exact (AHeap.fresh_set (by assumption)).1 | exact Ne.symm (AHeap.fresh_set (by assumption)).1 | exact AHeap.ne_of (by assumption) (by assumption) | exact Ne.symm (AHeap.ne_of (by assumption) (by assumption)) | exact (AHeap.fresh_set (AHeap.fresh_set (by assumption)).2).1 | exact Ne.symm (AHeap.fresh_set (AHeap.fresh_set (by assumption)).2).1)).trans ?_; first | assumption | exact AHeap.set_same _ _ _))) | (refine (AHeap.set_other _ _ (by first | assumption | exact (AHeap.fresh_set (by assumption)).1 | exact Ne.symm (AHeap.fresh_set (by assumption)).1 | exact AHeap.ne_of (by assumption) (by assumption) | exact Ne.symm (AHeap.ne_of (by assumption) (by assumption)) | exact (AHeap.fresh_set (AHeap.fresh_set (by assumption)).2).1 | exact Ne.symm (AHeap.fresh_set (AHeap.fresh_set (by assumption)).2).1)).trans ?_; first | assumption | exact AHeap.set_same _ _ _ | exact AHeap.get_fresh (by assumption) (by first | assumption | exact AHeap.set_same _ _ _ | exact AHeap.get_fresh (by assumption) (by first | assumption | exact AHeap.set_same _ _ _) | (refine (AHeap.set_other _ _ (by first | assumption | exact (AHeap.fresh_set (by assumption)).1 | exact Ne.symm (AHeap.fresh_set (by assumption)).1 | exact AHeap.ne_of (by assumption) (by assumption) | exact Ne.symm (AHeap.ne_of (by assumption) (by assumption)) | exact (AHeap.fresh_set (AHeap.fresh_set (by assumption)).2).1 | exact Ne.symm (AHeap.fresh_set (AHeap.fresh_set (by assumption)).2).1)).trans ?_; first | assumption | exact AHeap.set_same _ _ _)) | (refine (AHeap.set_other _ _ (by first | assumption | exact (AHeap.fresh_set (by assumption)).1 | exact Ne.symm (AHeap.fresh_set (by assumption)).1 | exact AHeap.ne_of (by assumption) (by assumption) | exact Ne.symm (AHeap.ne_of (by assumption) (by assumption)) | exact (AHeap.fresh_set (AHeap.fresh_set (by assumption)).2).1 | exact Ne.symm (AHeap.fresh_set (AHeap.fresh_set (by assumption)).2).1)).trans ?_; first | assumption | exact AHeap.set_same _ _ _ | exact AHeap.get_fresh (by assumption) (by first | assumption | exact AHeap.set_same _ _ _) | (refine (AHeap.set_other _ _ (by first | assumption | exact (AHeap.fresh_set (by assumption)).1 | exact Ne.symm (AHeap.fresh_set (by assumption)).1 | exact AHeap.ne_of (by assumption) (by assumption) | exact Ne.symm (AHeap.ne_of (by assumption) (by assumption)) | exact (AHeap.fresh_set (AHeap.fresh_set (by assumption)).2).1 | exact Ne.symm (AHeap.fresh_set (AHeap.fresh_set (by assumption)).2).1)).trans ?_; first | assumption | exact AHeap.set_same _ _ _)))) rfl ?_
        | refine S.addI rfl rfl (by omega) ?_
        | refine S.subI rfl rfl (by omega) ?_
        | refine S.addU rfl rfl ?_
        | refine S.subU rfl rfl ?_
        | refine S.addUc rfl (by decide) ?_
        | refine S.subUc rfl (by decide) ?_
        | refine S.arith rfl rfl rfl ?_
        | refine R.pickT rfl rfl ?_
        | refine R.pickF rfl rfl ?_
        | refine R.len rfl ?_
        | refine R.lenA rfl ?_
        | refine R.lenStr rfl ?_
        | refine S.convIU rfl (by omega) ?_
        | refine S.convUI rfl (by omega) ?_
        | refine R.convInt rfl ?_
        | refine R.not rfl ?_
        | refine R.eqPtrNil rfl rfl ?_
        | refine R.extract rfl rfl ?_
        | refine R.field rfl rfl ?_
        | refine R.alloc rfl (fun b hb => ?_)
        | refine R.box rfl rfl rfl (fun b hb => ?_)
        | refine R.build rfl rfl ?_
        | refine R.buildSl rfl rfl rfl (by decide) ?_
        | refine R.toStr rfl ?_
        | refine R.convStr rfl ?_
        | refine R.minmax rfl ?_
        | refine R.makeFunc rfl rfl ?_
        | (first | refine S.lss rfl rfl (fun hlt => ?_) (fun hlt => by exfalso; omega) | refine S.lss rfl rfl (fun hlt => by exfalso; omega) (fun hlt => ?_) | refine S.lss rfl rfl (fun hlt => ?_) (fun hlt => ?_))
        | (first | refine S.gtr rfl rfl (fun hlt => ?_) (fun hlt => by exfalso; omega) | refine S.gtr rfl rfl (fun hlt => by exfalso; omega) (fun hlt => ?_) | refine S.gtr rfl rfl (fun hlt => ?_) (fun hlt => ?_))
        | (first | refine S.leq rfl rfl (fun hlt => ?_) (fun hlt => by exfalso; omega) | refine S.leq rfl rfl (fun hlt => by exfalso; omega) (fun hlt => ?_) | refine S.leq rfl rfl (fun hlt => ?_) (fun hlt => ?_))
        | (first | refine S.geq rfl rfl (fun hlt => ?_) (fun hlt => by exfalso; omega) | refine S.geq rfl rfl (fun hlt => by exfalso; omega) (fun hlt => ?_) | refine S.geq rfl rfl (fun hlt => ?_) (fun hlt => ?_))
        | (first | refine S.eqInt rfl rfl (fun hlt => ?_) (fun hlt => by exfalso; omega) | refine S.eqInt rfl rfl (fun hlt => by exfalso; omega) (fun hlt => ?_) | refine S.eqInt rfl rfl (fun hlt => ?_) (fun hlt => ?_)))
      | (refine S.op0 rfl ?_; first | refine S.store rfl rfl (by first | assumption | exact AHeap.set_same _ _ _ | exact AHeap.get_fresh (by assumption) (by first | assumption | exact AHeap.set_same _ _ _ | exact AHeap.get_fresh (by assumption) (by first | assumption | exact AHeap.set_same _ _ _ | exact AHeap.get_fresh (by assumption) (by first | assumption | exact AHeap.set_same _ _ _) | (refine (AHeap.set_other _ _ (by first | assumption | exact (AHeap.fresh_set (by assumption)).1 | exact Ne.symm (AHeap.fresh_set (by assumption)).1 | exact AHeap.ne_of (by assumption) (by assumption) | exact Ne.symm (AHeap.ne_of (by assumption) (by assumption)) | exact (AHeap.fresh_set (AHeap.fresh_set (by assumption)).2).1 | exact Ne.symm (AHeap.fresh_set (AHeap.fresh_set (by assumption)).2).1)).trans ?_; first | assumption | exact AHeap.set_same _ _ _)) | (refine (AHeap.set_other _ _ (by first | assumption | exact (AHeap.fresh_set (by assumption)).1 | exact Ne.symm (AHeap.fresh_set (by assumption)).1 | exact AHeap.ne_of (by assumption) (by assumption) | exact Ne.symm (AHeap.ne_of (by assumption) (by assumption)) | exact (AHeap.fresh_set (AHeap.fresh_set (by assumption)).2).1 | exact Ne.symm (AHeap.fresh_set (AHeap.fresh_set (by assumption)).2).1)).trans ?_; first | assumption | exact AHeap.set_same _ _ _ | exact AHeap.get_fresh (by assumption) (by first | assumption | exact AHeap.set_same _ _ _) | (refine (AHeap.set_other _ _ (by first | assumption | exact (AHeap.fresh_set (by assumption)).1 | exact Ne.symm (AHeap.fresh_set (by assumption)).1 | exact AHeap.ne_of (by assumption) (by assumption) | exact Ne.symm (AHeap.ne_of (by assumption) (by assumption)) | exact (AHeap.fresh_set (AHeap.fresh_set (by assumption)).2).1 | exact Ne.symm (AHeap.fresh_set (AHeap.fresh_set (by assumption)).2).1)).trans ?_; first | assumption | exact AHeap.set_same _ _ _))) | (refine (AHeap.set_other _ _ (by first | assumption | exact (AHeap.fresh_set (by assumption)).1 | exact Ne.symm (AHeap.fresh_set (by assumption)).1 | exact AHeap.ne_of (by assumption) (by assumption) | exact Ne.symm (AHeap.ne_of (by assumption) (by assumption)) | exact (AHeap.fresh_set (AHeap.fresh_set (by assumption)).2).1 | exact Ne.symm (AHeap.fresh_set (AHeap.fresh_set (by assumption)).2).1)).trans ?_; first | assumption | exact AHeap.set_same _ _ _ | exact AHeap.get_fresh (by assumption) (by first | assumption | exact AHeap.set_same _ _ _ | exact AHeap.get_fresh (by assumption) (by first | assumption | exact AHeap.set_same _ _ _) | (refine (AHeap.set_other _ _ (by first | assumption | exact (AHeap.fresh_set (by assumption)).1 | exact Ne.symm (AHeap.fresh_set (by assumption)).1 | exact AHeap.ne_of (by assumption) (by assumption) | exact Ne.symm (AHeap.ne_of (by assumption) (by assumption)) | exact (AHeap.fresh_set (AHeap.fresh_set (by assumption)).2).1 | exact Ne.symm (AHeap.fresh_set (AHeap.fresh_set (by assumption)).2).1)).trans ?_; first | assumption | exact AHeap.set_same _ _ _)) | (refine (AHeap.set_other _ _ (by first | assumption | exact (AHeap.fresh_set (by assumption)).1 | exact Ne.symm (AHeap.fresh_set (by assumption)).1 | exact AHeap.ne_of (by assumption) (by assumption) | exact Ne.symm (AHeap.ne_of (by assumption) (by assumption)) | exact (AHeap.fresh_set (AHeap.fresh_set (by assumption)).2).1 | exact Ne.symm (AHeap.fresh_set (AHeap.fresh_set (by assumption)).2).1)).trans ?_; first | assumption | exact AHeap.set_same _ _ _ | exact AHeap.get_fresh (by assumption) (by first | assumption | exact AHeap.set_same _ _ _) | (refine (AHeap.set_other _ _ (by first | assumption | exact (AHeap.fresh_set (by assumption)).1 | exact Ne.symm (AHeap.fresh_set (by assumption)).1 | exact AHeap.ne_of (by assumption) (by assumption) | exact Ne.symm (AHeap.ne_of (by assumption) (by assumption)) | exact (AHeap.fresh_set (AHeap.fresh_set (by assumption)).2).1 | exact Ne.symm (AHeap.fresh_set (AHeap.fresh_set (by assumption)).2).1)).trans ?_; first | assumption | exact AHeap.set_same _ _ _)))) rfl rfl rfl (by rfl) rfl ?_)
      | refine S.skip rfl ?_
      | refine S.skip0 rfl ?_
      | refine S.seq ?_
      | refine S.region ?_
      | refine S.condT rfl ?_
      | refine S.condF rfl ?_
      | refine RRun.skip ?_
      | refine RRun.block ?_
      | refine RRun.inBlock ?_
      | refine RRun.exit rfl ?_)
    apply S.ret rr3
    case hx => repeat (first | exact ResAt.nil | apply ResAt.tmp rfl | apply ResAt.cellA rfl (by first | assumption | exact AHeap.set_same _ _ _ | exact AHeap.get_fresh (by assumption) (by first | assumption | exact AHeap.set_same _ _ _ | exact AHeap.get_fresh (by assumption) (by first | assumption | exact AHeap.set_same _ _ _ | exact AHeap.get_fresh (by assumption) (by first | assumption | exact AHeap.set_same _ _ _) | (refine (AHeap.set_other _ _ (by first | assumption | exact (AHeap.fresh_set (by assumption)).1 | exact Ne.symm (AHeap.fresh_set (by assumption)).1 | exact AHeap.ne_of (by assumption) (by assumption) | exact Ne.symm (AHeap.ne_of (by assumption) (by assumption)) | exact (AHeap.fresh_set (AHeap.fresh_set (by assumption)).2).1 | exact Ne.symm (AHeap.fresh_set (AHeap.fresh_set (by assumption)).2).1)).trans ?_; first | assumption | exact AHeap.set_same _ _ _)) | (refine (AHeap.set_other _ _ (by first | assumption | exact (AHeap.fresh_set (by assumption)).1 | exact Ne.symm (AHeap.fresh_set (by assumption)).1 | exact AHeap.ne_of (by assumption) (by assumption) | exact Ne.symm (AHeap.ne_of (by assumption) (by assumption)) | exact (AHeap.fresh_set (AHeap.fresh_set (by assumption)).2).1 | exact Ne.symm (AHeap.fresh_set (AHeap.fresh_set (by assumption)).2).1)).trans ?_; first | assumption | exact AHeap.set_same _ _ _ | exact AHeap.get_fresh (by assumption) (by first | assumption | exact AHeap.set_same _ _ _) | (refine (AHeap.set_other _ _ (by first | assumption | exact (AHeap.fresh_set (by assumption)).1 | exact Ne.symm (AHeap.fresh_set (by assumption)).1 | exact AHeap.ne_of (by assumption) (by assumption) | exact Ne.symm (AHeap.ne_of (by assumption) (by assumption)) | exact (AHeap.fresh_set (AHeap.fresh_set (by assumption)).2).1 | exact Ne.symm (AHeap.fresh_set (AHeap.fresh_set (by assumption)).2).1)).trans ?_; first | assumption | exact AHeap.set_same _ _ _))) | (refine (AHeap.set_other _ _ (by first | assumption | exact (AHeap.fresh_set (by assumption)).1 | exact Ne.symm (AHeap.fresh_set (by assumption)).1 | exact AHeap.ne_of (by assumption) (by assumption) | exact Ne.symm (AHeap.ne_of (by assumption) (by assumption)) | exact (AHeap.fresh_set (AHeap.fresh_set (by assumption)).2).1 | exact Ne.symm (AHeap.fresh_set (AHeap.fresh_set (by assumption)).2).1)).trans ?_; first | assumption | exact AHeap.set_same _ _ _ | exact AHeap.get_fresh (by assumption) (by first | assumption | exact AHeap.set_same _ _ _ | exact AHeap.get_fresh (by assumption) (by first | assumption | exact AHeap.set_same _ _ _) | (refine (AHeap.set_other _ _ (by first | assumption | exact (AHeap.fresh_set (by assumption)).1 | exact Ne.symm (AHeap.fresh_set (by assumption)).1 | exact AHeap.ne_of (by assumption) (by assumption) | exact Ne.symm (AHeap.ne_of (by assumption) (by assumption)) | exact (AHeap.fresh_set (AHeap.fresh_set (by assumption)).2).1 | exact Ne.symm (AHeap.fresh_set (AHeap.fresh_set (by assumption)).2).1)).trans ?_; first | assumption | exact AHeap.set_same _ _ _)) | (refine (AHeap.set_other _ _ (by first | assumption | exact (AHeap.fresh_set (by assumption)).1 | exact Ne.symm (AHeap.fresh_set (by assumption)).1 | exact AHeap.ne_of (by assumption) (by assumption) | exact Ne.symm (AHeap.ne_of (by assumption) (by assumption)) | exact (AHeap.fresh_set (AHeap.fresh_set (by assumption)).2).1 | exact Ne.symm (AHeap.fresh_set (AHeap.fresh_set (by assumption)).2).1)).trans ?_; first | assumption | exact AHeap.set_same _ _ _ | exact AHeap.get_fresh (by assumption) (by first | assumption | exact AHeap.set_same _ _ _) | (refine (AHeap.set_other _ _ (by first | assumption | exact (AHeap.fresh_set (by assumption)).1 | exact Ne.symm (AHeap.fresh_set (by assumption)).1 | exact AHeap.ne_of (by assumption) (by assumption) | exact Ne.symm (AHeap.ne_of (by assumption) (by assumption)) | exact (AHeap.fresh_set (AHeap.fresh_set (by assumption)).2).1 | exact Ne.symm (AHeap.fresh_set (AHeap.fresh_set (by assumption)).2).1)).trans ?_; first | assumption | exact AHeap.set_same _ _ _)))) (by rfl) | apply ResAt.cell1 rfl (by first | assumption | exact AHeap.set_same _ _ _ | exact AHeap.get_fresh (by assumption) (by first | assumption | exact AHeap.set_same _ _ _ | exact AHeap.get_fresh (by assumption) (by first | assumption | exact AHeap.set_same _ _ _ | exact AHeap.get_fresh (by assumption) (by first | assumption | exact AHeap.set_same _ _ _) | (refine (AHeap.set_other _ _ (by first | assumption | exact (AHeap.fresh_set (by assumption)).1 | exact Ne.symm (AHeap.fresh_set (by assumption)).1 | exact AHeap.ne_of (by assumption) (by assumption) | exact Ne.symm (AHeap.ne_of (by assumption) (by assumption)) | exact (AHeap.fresh_set (AHeap.fresh_set (by assumption)).2).1 | exact Ne.symm (AHeap.fresh_set (AHeap.fresh_set (by assumption)).2).1)).trans ?_; first | assumption | exact AHeap.set_same _ _ _)) | (refine (AHeap.set_other _ _ (by first | assumption | exact (AHeap.fresh_set (by assumption)).1 | exact Ne.symm (AHeap.fresh_set (by assumption)).1 | exact AHeap.ne_of (by assumption) (by assumption) | exact Ne.symm (AHeap.ne_of (by assumption) (by assumption)) | exact (AHeap.fresh_set (AHeap.fresh_set (by assumption)).2).1 | exact Ne.symm (AHeap.fresh_set (AHeap.fresh_set (by assumption)).2).1)).trans ?_; first | assumption | exact AHeap.set_same _ _ _ | exact AHeap.get_fresh (by assumption) (by first | assumption | exact AHeap.set_same _ _ _) | (refine (AHeap.set_other _ _ (by first | assumption | exact (AHeap.fresh_set (by assumption)).1 | exact Ne.symm (AHeap.fresh_set (by assumption)).1 | exact AHeap.ne_of (by assumption) (by assumption) | exact Ne.symm (AHeap.ne_of (by assumption) (by assumption)) | exact (AHeap.fresh_set (AHeap.fresh_set (by assumption)).2).1 | exact Ne.symm (AHeap.fresh_set (AHeap.fresh_set (by assumption)).2).1)).trans ?_; first | assumption | exact AHeap.set_same _ _ _))) | (refine (AHeap.set_other _ _ (by first | assumption | exact (AHeap.fresh_set (by assumption)).1 | exact Ne.symm (AHeap.fresh_set (by assumption)).1 | exact AHeap.ne_of (by assumption) (by assumption) | exact Ne.symm (AHeap.ne_of (by assumption) (by assumption)) | exact (AHeap.fresh_set (AHeap.fresh_set (by assumption)).2).1 | exact Ne.symm (AHeap.fresh_set (AHeap.fresh_set (by assumption)).2).1)).trans ?_; first | assumption | exact AHeap.set_same _ _ _ | exact AHeap.get_fresh (by assumption) (by first | assumption | exact AHeap.set_same _ _ _ | exact AHeap.get_fresh (by assumption) (by first | assumption | exact AHeap.set_same _ _ _) | (refine (AHeap.set_other _ _ (by first | assumption | exact (AHeap.fresh_set (by assumption)).1 | exact Ne.symm (AHeap.fresh_set (by assumption)).1 | exact AHeap.ne_of (by assumption) (by assumption) | exact Ne.symm (AHeap.ne_of (by assumption) (by assumption)) | exact (AHeap.fresh_set (AHeap.fresh_set (by assumption)).2).1 | exact Ne.symm (AHeap.fresh_set (AHeap.fresh_set (by assumption)).2).1)).trans ?_; first | assumption | exact AHeap.set_same _ _ _)) | (refine (AHeap.set_other _ _ (by first | assumption | exact (AHeap.fresh_set (by assumption)).1 | exact Ne.symm (AHeap.fresh_set (by assumption)).1 | exact AHeap.ne_of (by assumption) (by assumption) | exact Ne.symm (AHeap.ne_of (by assumption) (by assumption)) | exact (AHeap.fresh_set (AHeap.fresh_set (by assumption)).2).1 | exact Ne.symm (AHeap.fresh_set (AHeap.fresh_set (by assumption)).2).1)).trans ?_; first | assumption | exact AHeap.set_same _ _ _ | exact AHeap.get_fresh (by assumption) (by first | assumption | exact AHeap.set_same _ _ _) | (refine (AHeap.set_other _ _ (by first | assumption | exact (AHeap.fresh_set (by assumption)).1 | exact Ne.symm (AHeap.fresh_set (by assumption)).1 | exact AHeap.ne_of (by assumption) (by assumption) | exact Ne.symm (AHeap.ne_of (by assumption) (by assumption)) | exact (AHeap.fresh_set (AHeap.fresh_set (by assumption)).2).1 | exact Ne.symm (AHeap.fresh_set (AHeap.fresh_set (by assumption)).2).1)).trans ?_; first | assumption | exact AHeap.set_same _ _ _)))) (by rfl))
    exact ⟨_, _, .refl _, (by repeat (first | exact AHeap.le.refl _ | refine AHeap.le.set ?_ _ (by first | assumption | exact (AHeap.fresh_set (by assumption)).2 | exact (AHeap.fresh_set (AHeap.fresh_set (by assumption)).2).2 | exact (AHeap.fresh_set (AHeap.fresh_set (AHeap.fresh_set (by assumption)).2).2).2 | exact (AHeap.fresh_set (AHeap.fresh_set (AHeap.fresh_set (AHeap.fresh_set (by assumption)).2).2).2).2) | refine AHeap.le.both ?_ _ _)), rfl, rfl⟩
  | true =>
  rw [hs1] at c1
  cases hs2 : small l with
  | false =>
    rw [hs2] at c2
    repeat' (first
      | refine S.nilK ?_
      | (refine S.op rfl ?_; first
        | refine R.callQ (by decide) rfl (awake_spec _) ?_
        | refine R.callQ (by decide) rfl (c1 _) ?_
        | refine R.callQ (by decide) rfl (c2 _) ?_
        | refine R.mv rfl ?_
        | refine R.fieldAddr rfl ?_
        | refine R.fieldAddrR rfl ?_
        | refine R.nilCheck rfl ?_
        | refine R.nilCheckR rfl ?_
        | refine R.loadR rfl rfl ?_
        | refine R.load (by decide) rfl (by first | assumption | exact AHeap.set_same _ _ _ | exact AHeap.get_fresh (by assumption) (by first | assumption | exact AHeap.set_same _ _ _ | exact AHeap.get_fresh (by assumption) (by first | assumption | exact AHeap.set_same _ _ _ | exact AHeap.get_fresh (by assumption) (by first | assumption | exact AHeap.set_same _ _ _) | (refine (AHeap.set_other _ _ (by first | assumption | exact (AHeap.fresh_set (by assumption)).1 | exact Ne.symm (AHeap.fresh_set (by assumption)).1 | exact AHeap.ne_of (by assumption) (by assumption) | exact Ne.symm (AHeap.ne_of (by assumption) (by assumption)) | exact (AHeap.fresh_set (AHeap.fresh_set (by assumption)).2).1 | exact Ne.symm (AHeap.fresh_set (AHeap.fresh_set (by assumption)).2).1)).trans ?_; first | assumption | exact AHeap.set_same _ _ _)) | (refine (AHeap.set_other _ _ (by first | assumption | exact (AHeap.fresh_set (by assumption)).1 | exact Ne.symm (AHeap.fresh_set (by assumption)).1 | exact AHeap.ne_of (by assumption) (by assumption) | exact Ne.symm (AHeap.ne_of (by assumption) (by assumption)) | exact (AHeap.fresh_set (AHeap.fresh_set (by assumption)).2).1 | exact Ne.symm (AHeap.fresh_set (AHeap.fresh_set (by assumption)).2).1)).trans ?_; first | assumption | exact AHeap.set_same _ _ _ | exact AHeap.get_fresh (by assumption) (by first | assumption | exact AHeap.set_same _ _ _) | (refine (AHeap.set_other _ _ (by first | assumption | exact (AHeap.fresh_set (by assumption)).1 | exact Ne.symm (AHeap.fresh_set (by assumption)).1 | exact AHeap.ne_of (by assumption) (by assumption) | exact Ne.symm (AHeap.ne_of (by assumption) (by assumption)) | exact (AHeap.fresh_set (AHeap.fresh_set (by assumption)).2).1 | exact Ne.symm (AHeap.fresh_set (AHeap.fresh_set (by assumption)).2).1)).trans ?_; first | assumption | exact AHeap.set_same _ _ _))) | (refine (AHeap.set_other _ _ (by first | assumption | exact (AHeap.fresh_set (by assumption)).1 | exact Ne.symm (AHeap.fresh_set (by assumption)).1 | exact AHeap.ne_of (by assumption) (by assumption) | exact Ne.symm (AHeap.ne_of (by assumption) (by assumption)) | exact (AHeap.fresh_set (AHeap.fresh_set (by assumption)).2).1 | exact Ne.symm (AHeap.fresh_set (AHeap.fresh_set (by assumption)).2).1)).trans ?_; first | assumption | exact AHeap.set_same _ _ _ | exact AHeap.get_fresh (by assumption) (by first | assumption | exact AHeap.set_same _ _ _ | exact AHeap.get_fresh (by assumption) (by first | assumption | exact AHeap.set_same _ _ _) | (refine (AHeap.set_other _ _ (by first | assumption | exact (AHeap.fresh_set (by assumption)).1 | exact Ne.symm (AHeap.fresh_set (by assumption)).1 | exact AHeap.ne_of (by assumption) (by assumption) | exact Ne.symm (AHeap.ne_of (by assumption) (by assumption)) | exact (AHeap.fresh_set (AHeap.fresh_set (by assumption)).2).1 | exact Ne.symm (AHeap.fresh_set (AHeap.fresh_set (by assumption)).2).1)).trans ?_; first | assumption | exact AHeap.set_same _ _ _)) | (refine (AHeap.set_other _ _ (by first | assumption | exact (AHeap.fresh_set (by assumption)).1 | exact Ne.symm (AHeap.fresh_set (by assumption)).1 | exact AHeap.ne_of (by assumption) (by assumption) | exact Ne.symm (AHeap.ne_of (by assumption) (by assumption)) | exact (AHeap.fresh_set (AHeap.fresh_set (by assumption)).2).1 | exact Ne.symm (AHeap.fresh_set (AHeap.fresh_set (by assumption)).2).1)).trans ?_; first | assumption | exact AHeap.set_same _ _ _ | exact AHeap.get_fresh (by assumption) (by first | assumption | exact AHeap.set_same _ _ _) | (refine (AHeap.set_other _ _ (by first | assumption | exact (AHeap.fresh_set (by assumption)).1 | exact Ne.symm (AHeap.fresh_set (by assumption)).1 | exact AHeap.ne_of (by assumption) (by assumption) | exact Ne.symm (AHeap.ne_of (by assumption) (by assumption)) | exact (AHeap.fresh_set (AHeap.fresh_set (by assumption)).2).1 | exact Ne.symm (AHeap.fresh_set (AHeap.fresh_set (by assumption)).2).1)).trans ?_; first | assumption | exact AHeap.set_same _ _ _)))) rfl ?_
        | refine S.addI rfl rfl (by omega) ?_
        | refine S.subI rfl rfl (by omega) ?_
        | refine S.addU rfl rfl ?_
        | refine S.subU rfl rfl ?_
        | refine S.addUc rfl (by decide) ?_
        | refine S.subUc rfl (by decide) ?_
        | refine S.arith rfl rfl rfl ?_
        | refine R.pickT rfl rfl ?_
        | refine R.pickF rfl rfl ?_
        | refine R.len rfl ?_
        | refine R.lenA rfl ?_
        | refine R.lenStr rfl ?_
        | refine S.convIU rfl (by omega) ?_
        | refine S.convUI rfl (by omega) ?_
        | refine R.convInt rfl ?_
        | refine R.not rfl ?_
        | refine R.eqPtrNil rfl rfl ?_
        | refine R.extract rfl rfl ?_
        | refine R.field rfl rfl ?_
        | refine R.alloc rfl (fun b hb => ?_)
        | refine R.box rfl rfl rfl (fun b hb => ?_)
        | refine R.build rfl rfl ?_
        | refine R.buildSl rfl rfl rfl (by decide) ?_
        | refine R.toStr rfl ?_
        | refine R.convStr rfl ?_
        | refine R.minmax rfl ?_
        | refine R.makeFunc rfl rfl ?_
        | (first | refine S.lss rfl rfl (fun hlt => ?_) (fun hlt => by exfalso; omega) | refine S.lss rfl rfl (fun hlt => by exfalso; omega) (fun hlt => ?_) | refine S.lss rfl rfl (fun hlt => ?_) (fun hlt => ?_))
        | (first | refine S.gtr rfl rfl (fun hlt => ?_) (fun hlt => by exfalso; omega) | refine S.gtr rfl rfl (fun hlt => by exfalso; omega) (fun hlt => ?_) | refine S.gtr rfl rfl (fun hlt => ?_) (fun hlt => ?_))
        | (first | refine S.leq rfl rfl (fun hlt => ?_) (fun hlt => by exfalso; omega) | refine S.leq rfl rfl (fun hlt => by exfalso; omega) (fun hlt => ?_) | refine S.leq rfl rfl (fun hlt => ?_) (fun hlt => ?_))
        | (first | refine S.geq rfl rfl (fun hlt => ?_) (fun hlt => by exfalso; omega) | refine S.geq rfl rfl (fun hlt => by exfalso; omega) (fun hlt => ?_) | refine S.geq rfl rfl (fun hlt => ?_) (fun hlt => ?_))
        | (first | refine S.eqInt rfl rfl (fun hlt => ?_) (fun hlt => by exfalso; omega) | refine S.eqInt rfl rfl (fun hlt => by exfalso; omega) (fun hlt => ?_) | refine S.eqInt rfl rfl (fun hlt => ?_) (fun hlt => ?_)))
      | (refine S.op0 rfl ?_; first | refine S.store rfl rfl (by first | assumption | exact AHeap.set_same _ _ _ | exact AHeap.get_fresh (by assumption) (by first | assumption | exact AHeap.set_same _ _ _ | exact AHeap.get_fresh (by assumption) (by first | assumption | exact AHeap.set_same _ _ _ | exact AHeap.get_fresh (by assumption) (by first | assumption | exact AHeap.set_same _ _ _) | (refine (AHeap.set_other _ _ (by first | assumption | exact (AHeap.fresh_set (by assumption)).1 | exact Ne.symm (AHeap.fresh_set (by assumption)).1 | exact AHeap.ne_of (by assumption) (by assumption) | exact Ne.symm (AHeap.ne_of (by assumption) (by assumption)) | exact (AHeap.fresh_set (AHeap.fresh_set (by assumption)).2).1 | exact Ne.symm (AHeap.fresh_set (AHeap.fresh_set (by assumption)).2).1)).trans ?_; first | assumption | exact AHeap.set_same _ _ _)) | (refine (AHeap.set_other _ _ (by first | assumption | exact (AHeap.fresh_set (by assumption)).1 | exact Ne.symm (AHeap.fresh_set (by assumption)).1 | exact AHeap.ne_of (by assumption) (by assumption) | exact Ne.symm (AHeap.ne_of (by assumption) (by assumption)) | exact (AHeap.fresh_set (AHeap.fresh_set (by assumption)).2).1 | exact Ne.symm (AHeap.fresh_set (AHeap.fresh_set (by assumption)).2).1)).trans ?_; first | assumption | exact AHeap.set_same _ _ _ | exact AHeap.get_fresh (by assumption) (by first | assumption | exact AHeap.set_same _ _ _) | (refine (AHeap.set_other _ _ (by first | assumption | exact (AHeap.fresh_set (by assumption)).1 | exact Ne.symm (AHeap.fresh_set (by assumption)).1 | exact AHeap.ne_of (by assumption) (by assumption) | exact Ne.symm (AHeap.ne_of (by assumption) (by assumption)) | exact (AHeap.fresh_set (AHeap.fresh_set (by assumption)).2).1 | exact Ne.symm (AHeap.fresh_set (AHeap.fresh_set (by assumption)).2).1)).trans ?_; first | assumption | exact AHeap.set_same _ _ _))) | (refine (AHeap.set_other _ _ (by first | assumption | exact (AHeap.fresh_set (by assumption)).1 | exact Ne.symm (AHeap.fresh_set (by assumption)).1 | exact AHeap.ne_of (by assumption) (by assumption) | exact Ne.symm (AHeap.ne_of (by assumption) (by assumption)) | exact (AHeap.fresh_set (AHeap.fresh_set (by assumption)).2).1 | exact Ne.symm (AHeap.fresh_set (AHeap.fresh_set (by assumption)).2).1)).trans ?_; first | assumption | exact AHeap.set_same _ _ _ | exact AHeap.get_fresh (by assumption) (by first | assumption | exact AHeap.set_same _ _ _ | exact AHeap.get_fresh (by assumption) (by first | assumption | exact AHeap.set_same _ _ _) | (refine (AHeap.set_other _ _ (by first | assumption | exact (AHeap.fresh_set (by assumption)).1 | exact Ne.symm (AHeap.fresh_set (by assumption)).1 | exact AHeap.ne_of (by assumption) (by assumption) | exact Ne.symm (AHeap.ne_of (by assumption) (by assumption)) | exact (AHeap.fresh_set (AHeap.fresh_set (by assumption)).2).1 | exact Ne.symm (AHeap.fresh_set (AHeap.fresh_set (by assumption)).2).1)).trans ?_; first | assumption | exact AHeap.set_same _ _ _)) | (refine (AHeap.set_other _ _ (by first | assumption | exact (AHeap.fresh_set (by assumption)).1 | exact Ne.symm (AHeap.fresh_set (by assumption)).1 | exact AHeap.ne_of (by assumption) (by assumption) | exact Ne.symm (AHeap.ne_of (by assumption) (by assumption)) | exact (AHeap.fresh_set (AHeap.fresh_set (by assumption)).2).1 | exact Ne.symm (AHeap.fresh_set (AHeap.fresh_set (by assumption)).2).1)).trans ?_; first | assumption | exact AHeap.set_same _ _ _ | exact AHeap.get_fresh (by assumption) (by first | assumption | exact AHeap.set_same _ _ _) | (refine (AHeap.set_other _ _ (by first | assumption | exact (AHeap.fresh_set (by assumption)).1 | exact Ne.symm (AHeap.fresh_set (by assumption)).1 | exact AHeap.ne_of (by assumption) (by assumption) | exact Ne.symm (AHeap.ne_of (by assumption) (by assumption)) | exact (AHeap.fresh_set (AHeap.fresh_set (by assumption)).2).1 | exact Ne.symm (AHeap.fresh_set (AHeap.fresh_set (by assumption)).2).1)).trans ?_; first | assumption | exact AHeap.set_same _ _ _)))) rfl rfl rfl (by rfl) rfl ?_)
      | refine S.skip rfl ?_
      | refine S.skip0 rfl ?_
      | refine S.seq ?_
      | refine S.region ?_
      | refine S.condT rfl ?_
      | refine S.condF rfl ?_
      | refine RRun.skip ?_
      | refine RRun.block ?_
      | refine RRun.inBlock ?_
      | refine RRun.exit rfl ?_)
    apply S.ret rr3
    case hx => repeat (first | exact ResAt.nil | apply ResAt.tmp rfl | apply ResAt.cellA rfl (by first | assumption | exact AHeap.set_same _ _ _ | exact AHeap.get_fresh (by assumption) (by first | assumption | exact AHeap.set_same _ _ _ | exact AHeap.get_fresh (by assumption) (by first | assumption | exact AHeap.set_same _ _ _ | exact AHeap.get_fresh (by assumption) (by first | assumption | exact AHeap.set_same _ _ _) | (refine (AHeap.set_other _ _ (by first | assumption | exact (AHeap.fresh_set (by assumption)).1 | exact Ne.symm (AHeap.fresh_set (by assumption)).1 | exact AHeap.ne_of (by assumption) (by assumption) | exact Ne.symm (AHeap.ne_of (by assumption) (by assumption)) | exact (AHeap.fresh_set (AHeap.fresh_set (by assumption)).2).1 | exact Ne.symm (AHeap.fresh_set (AHeap.fresh_set (by assumption)).2).1)).trans ?_; first | assumption | exact AHeap.set_same _ _ _)) | (refine (AHeap.set_other _ _ (by first | assumption | exact (AHeap.fresh_set (by assumption)).1 | exact Ne.symm (AHeap.fresh_set (by assumption)).1 | exact AHeap.ne_of (by assumption) (by assumption) | exact Ne.symm (AHeap.ne_of (by assumption) (by assumption)) | exact (AHeap.fresh_set (AHeap.fresh_set (by assumption)).2).1 | exact Ne.symm (AHeap.fresh_set (AHeap.fresh_set (by assumption)).2).1)).trans ?_; first | assumption | exact AHeap.set_same _ _ _ | exact AHeap.get_fresh (by assumption) (by first | assumption | exact AHeap.set_same _ _ _) | (refine (AHeap.set_other _ _ (by first | assumption | exact (AHeap.fresh_set (by assumption)).1 | exact Ne.symm (AHeap.fresh_set (by assumption)).1 | exact AHeap.ne_of (by assumption) (by assumption) | exact Ne.symm (AHeap.ne_of (by assumption) (by assumption)) | exact (AHeap.fresh_set (AHeap.fresh_set (by assumption)).2).1 | exact Ne.symm (AHeap.fresh_set (AHeap.fresh_set (by assumption)).2).1)).trans ?_; first | assumption | exact AHeap.set_same _ _ _))) | (refine (AHeap.set_other _ _ (by first | assumption | exact (AHeap.fresh_set (by assumption)).1 | exact Ne.symm (AHeap.fresh_set (by assumption)).1 | exact AHeap.ne_of (by assumption) (by assumption) | exact Ne.symm (AHeap.ne_of (by assumption) (by assumption)) | exact (AHeap.fresh_set (AHeap.fresh_set (by assumption)).2).1 | exact Ne.symm (AHeap.fresh_set (AHeap.fresh_set (by assumption)).2).1)).trans ?_; first | assumption | exact AHeap.set_same _ _ _ | exact AHeap.get_fresh (by assumption) (by first | assumption | exact AHeap.set_same _ _ _ | exact AHeap.get_fresh (by assumption) (by first | assumption | exact AHeap.set_same _ _ _) | (refine (AHeap.set_other _ _ (by first | assumption | exact (AHeap.fresh_set (by assumption)).1 | exact Ne.symm (AHeap.fresh_set (by assumption)).1 | exact AHeap.ne_of (by assumption) (by assumption) | exact Ne.symm (AHeap.ne_of (by assumption) (by assumption)) | exact (AHeap.fresh_set (AHeap.fresh_set (by assumption)).2).1 | exact Ne.symm (AHeap.fresh_set (AHeap.fresh_set (by assumption)).2).1)).trans ?_; first | assumption | exact AHeap.set_same _ _ _)) | (refine (AHeap.set_other _ _ (by first | assumption | exact (AHeap.fresh_set (by assumption)).1 | exact Ne.symm (AHeap.fresh_set (by assumption)).1 | exact AHeap.ne_of (by assumption) (by assumption) | exact Ne.symm (AHeap.ne_of (by assumption) (by assumption)) | exact (AHeap.fresh_set (AHeap.fresh_set (by assumption)).2).1 | exact Ne.symm (AHeap.fresh_set (AHeap.fresh_set (by assumption)).2).1)).trans ?_; first | assumption | exact AHeap.set_same _ _ _ | exact AHeap.get_fresh (by assumption) (by first | assumption | exact AHeap.set_same _ _ _) | (refine (AHeap.set_other _ _ (by first | assumption | exact (AHeap.fresh_set (by assumption)).1 | exact Ne.symm (AHeap.fresh_set (by assumption)).1 | exact AHeap.ne_of (by assumption) (by assumption) | exact Ne.symm (AHeap.ne_of (by assumption) (by assumption)) | exact (AHeap.fresh_set (AHeap.fresh_set (by assumption)).2).1 | exact Ne.symm (AHeap.fresh_set (AHeap.fresh_set (by assumption)).2).1)).trans ?_; first | assumption | exact AHeap.set_same _ _ _)))) (by rfl) | apply ResAt.cell1 rfl (by first | assumption | exact AHeap.set_same _ _ _ | exact AHeap.get_fresh (by assumption) (by first | assumption | exact AHeap.set_same _ _ _ | exact AHeap.get_fresh (by assumption) (by first | assumption | exact AHeap.set_same _ _ _ | exact AHeap.get_fresh (by assumption) (by first | assumption | exact AHeap.set_same _ _ _) | (refine (AHeap.set_other _ _ (by first | assumption | exact (AHeap.fresh_set (by assumption)).1 | exact Ne.symm (AHeap.fresh_set (by assumption)).1 | exact AHeap.ne_of (by assumption) (by assumption) | exact Ne.symm (AHeap.ne_of (by assumption) (by assumption)) | exact (AHeap.fresh_set (AHeap.fresh_set (by assumption)).2).1 | exact Ne.symm (AHeap.fresh_set (AHeap.fresh_set (by assumption)).2).1)).trans ?_; first | assumption | exact AHeap.set_same _ _ _)) | (refine (AHeap.set_other _ _ (by first | assumption | exact (AHeap.fresh_set (by assumption)).1 | exact Ne.symm (AHeap.fresh_set (by assumption)).1 | exact AHeap.ne_of (by assumption) (by assumption) | exact Ne.symm (AHeap.ne_of (by assumption) (by assumption)) | exact (AHeap.fresh_set (AHeap.fresh_set (by assumption)).2).1 | exact Ne.symm (AHeap.fresh_set (AHeap.fresh_set (by assumption)).2).1)).trans ?_; first | assumption | exact AHeap.set_same _ _ _ | exact AHeap.get_fresh (by assumption) (by first | assumption | exact AHeap.set_same _ _ _) | (refine (AHeap.set_other _ _ (by first | assumption | exact (AHeap.fresh_set (by assumption)).1 | exact Ne.symm (AHeap.fresh_set (by assumption)).1 | exact AHeap.ne_of (by assumption) (by assumption) | exact Ne.symm (AHeap.ne_of (by assumption) (by assumption)) | exact (AHeap.fresh_set (AHeap.fresh_set (by assumption)).2).1 | exact Ne.symm (AHeap.fresh_set (AHeap.fresh_set (by assumption)).2).1)).trans ?_; first | assumption | exact AHeap.set_same _ _ _))) | (refine (AHeap.set_other _ _ (by first | assumption | exact (AHeap.fresh_set (by assumption)).1 | exact Ne.symm (AHeap.fresh_set (by assumption)).1 | exact AHeap.ne_of (by assumption) (by assumption) | exact Ne.symm (AHeap.ne_of (by assumption) (by assumption)) | exact (AHeap.fresh_set (AHeap.fresh_set (by assumption)).2).1 | exact Ne.symm (AHeap.fresh_set (AHeap.fresh_set (by assumption)).2).1)).trans ?_; first | assumption | exact AHeap.set_same _ _ _ | exact AHeap.get_fresh (by assumption) (by first | assumption | exact AHeap.set_same _ _ _ | exact AHeap.get_fresh (by assumption) (by first | assumption | exact AHeap.set_same _ _ _) | (refine (AHeap.set_other _ _ (by first | assumption | exact (AHeap.fresh_set (by assumption)).1 | exact Ne.symm (AHeap.fresh_set (by assumption)).1 | exact AHeap.ne_of (by assumption) (by assumption) | exact Ne.symm (AHeap.ne_of (by assumption) (by assumption)) | exact (AHeap.fresh_set (AHeap.fresh_set (by assumption)).2).1 | exact Ne.symm (AHeap.fresh_set (AHeap.fresh_set (by assumption)).2).1)).trans ?_; first | assumption | exact AHeap.set_same _ _ _)) | (refine (AHeap.set_other _ _ (by first | assumption | exact (AHeap.fresh_set (by assumption)).1 | exact Ne.symm (AHeap.fresh_set (by assumption)).1 | exact AHeap.ne_of (by assumption) (by assumption) | exact Ne.symm (AHeap.ne_of (by assumption) (by assumption)) | exact (AHeap.fresh_set (AHeap.fresh_set (by assumption)).2).1 | exact Ne.symm (AHeap.fresh_set (AHeap.fresh_set (by assumption)).2).1)).trans ?_; first | assumption | exact AHeap.set_same _ _ _ | exact AHeap.get_fresh (by assumption) (by first | assumption | exact AHeap.set_same _ _ _) | (refine (AHeap.set_other _ _ (by first | assumption | exact (AHeap.fresh_set (by assumption)).1 | exact Ne.symm (AHeap.fresh_set (by assumption)).1 | exact AHeap.ne_of (by assumption) (by assumption) | exact Ne.symm (AHeap.ne_of (by assumption) (by assumption)) | exact (AHeap.fresh_set (AHeap.fresh_set (by assumption)).2).1 | exact Ne.symm (AHeap.fresh_set (AHeap.fresh_set (by assumption)).2).1)).trans ?_; first | assumption | exact AHeap.set_same _ _ _)))) (by rfl))
    exact ⟨_, _, .refl _, (by repeat (first | exact AHeap.le.refl _ | refine AHeap.le.set ?_ _ (by first | assumption | exact (AHeap.fresh_set (by assumption)).2 | exact (AHeap.fresh_set (AHeap.fresh_set (by assumption)).2).2 | exact (AHeap.fresh_set (AHeap.fresh_set (AHeap.fresh_set (by assumption)).2).2).2 | exact (AHeap.fresh_set (AHeap.fresh_set (AHeap.fresh_set (AHeap.fresh_set (by assumption)).2).2).2).2) | refine AHeap.le.both ?_ _ _)), rfl, rfl⟩
  | true =>
  rw [hs2] at c2
  cases hs3 : small m with
  | false =>
    rw [hs3] at c3
    repeat' (first
      | refine S.nilK ?_
      | (refine S.op rfl ?_; first
        | refine R.callQ (by decide) rfl (awake_spec _) ?_
        | refine R.callQ (by decide) rfl (c1 _) ?_
        | refine R.callQ (by decide) rfl (c2 _) ?_
        | refine R.callQ (by decide) rfl (c3 _) ?_
        | refine R.mv rfl ?_
        | refine R.fieldAddr rfl ?_
        | refine R.fieldAddrR rfl ?_
        | refine R.nilCheck rfl ?_
        | refine R.nilCheckR rfl ?_
        | refine R.loadR rfl rfl ?_
        | refine R.load (by decide) rfl (by first | assumption | exact AHeap.set_same _ _ _ | exact AHeap.get_fresh (by assumption) (by first | assumption | exact AHeap.set_same _ _ _ | exact AHeap.get_fresh (by assumption) (by first | assumption | exact AHeap.set_same _ _ _ | exact AHeap.get_fresh (by assumption) (by first | assumption | exact AHeap.set_same _ _ _) | (refine (AHeap.set_other _ _ (by first | assumption | exact (AHeap.fresh_set (by assumption)).1 | exact Ne.symm (AHeap.fresh_set (by assumption)).1 | exact AHeap.ne_of (by assumption) (by assumption) | exact Ne.symm (AHeap.ne_of (by assumption) (by assumption)) | exact (AHeap.fresh_set (AHeap.fresh_set (by assumption)).2).1 | exact Ne.symm (AHeap.fresh_set (AHeap.fresh_set (by assumption)).2).1)).trans ?_; first | assumption | exact AHeap.set_same _ _ _)) | (refine (AHeap.set_other _ _ (by first | assumption | exact (AHeap.fresh_set (by assumption)).1 | exact Ne.symm (AHeap.fresh_set (by assumption)).1 | exact AHeap.ne_of (by assumption) (by assumption) | exact Ne.symm (AHeap.ne_of (by assumption) (by assumption)) | exact (AHeap.fresh_set (AHeap.fresh_set (by assumption)).2).1 | exact Ne.symm (AHeap.fresh_set (AHeap.fresh_set (by assumption)).2).1)).trans ?_; first | assumption | exact AHeap.set_same _ _ _ | exact AHeap.get_fresh (by assumption) (by first | assumption | exact AHeap.set_same _ _ _) | (refine (AHeap.set_other _ _ (by first | assumption | exact (AHeap.fresh_set (by assumption)).1 | exact Ne.symm (AHeap.fresh_set (by assumption)).1 | exact AHeap.ne_of (by assumption) (by assumption) | exact Ne.symm (AHeap.ne_of (by assumption) (by assumption)) | exact (AHeap.fresh_set (AHeap.fresh_set (by assumption)).2).1 | exact Ne.symm (AHeap.fresh_set (AHeap.fresh_set (by assumption)).2).1)).trans ?_; first | assumption | exact AHeap.set_same _ _ _))) | (refine (AHeap.set_other _ _ (by first | assumption | exact (AHeap.fresh_set (by assumption)).1 | exact Ne.symm (AHeap.fresh_set (by assumption)).1 | exact AHeap.ne_of (by assumption) (by assumption) | exact Ne.symm (AHeap.ne_of (by assumption) (by assumption)) | exact (AHeap.fresh_set (AHeap.fresh_set (by assumption)).2).1 | exact Ne.symm (AHeap.fresh_set (AHeap.fresh_set (by assumption)).2).1)).trans ?_; first | assumption | exact AHeap.set_same _ _ _ | exact AHeap.get_fresh (by assumption) (by first | assumption | exact AHeap.set_same _ _ _ | exact AHeap.get_fresh (by assumption) (by first | assumption | exact AHeap.set_same _ _ _) | (refine (AHeap.set_other _ _ (by first | assumption | exact (AHeap.fresh_set (by assumption)).1 | exact Ne.symm (AHeap.fresh_set (by assumption)).1 | exact AHeap.ne_of (by assumption) (by assumption) | exact Ne.symm (AHeap.ne_of (by assumption) (by assumption)) | exact (AHeap.fresh_set (AHeap.fresh_set (by assumption)).2).1 | exact Ne.symm (AHeap.fresh_set (AHeap.fresh_set (by assumption)).2).1)).trans ?_; first | assumption | exact AHeap.set_same _ _ _)) | (refine (AHeap.set_other _ _ (by first | assumption | exact (AHeap.fresh_set (by assumption)).1 | exact Ne.symm (AHeap.fresh_set (by assumption)).1 | exact AHeap.ne_of (by assumption) (by assumption) | exact Ne.symm (AHeap.ne_of (by assumption) (by assumption)) | exact (AHeap.fresh_set (AHeap.fresh_set (by assumption)).2).1 | exact Ne.symm (AHeap.fresh_set (AHeap.fresh_set (by assumption)).2).1)).trans ?_; first | assumption | exact AHeap.set_same _ _ _ | exact AHeap.get_fresh (by assumption) (by first | assumption | exact AHeap.set_same _ _ _) | (refine (AHeap.set_other _ _ (by first | assumption | exact (AHeap.fresh_set (by assumption)).1 | exact Ne.symm (AHeap.fresh_set (by assumption)).1 | exact AHeap.ne_of (by assumption) (by assumption) | exact Ne.symm (AHeap.ne_of (by assumption) (by assumption)) | exact (AHeap.fresh_set (AHeap.fresh_set (by assumption)).2).1 | exact Ne.symm (AHeap.fresh_set (AHeap.fresh_set (by assumption)).2).1)).trans ?_; first | assumption | exact AHeap.set_same _ _ _)))) rfl ?_
        | refine S.addI rfl rfl (by omega) ?_
        | refine S.subI rfl rfl (by omega) ?_
        | refine S.addU rfl rfl ?_
        | refine S.subU rfl rfl ?_
        | refine S.addUc rfl (by decide) ?_
        | refine S.subUc rfl (by decide) ?_
        | refine S.arith rfl rfl rfl ?_
        | refine R.pickT rfl rfl ?_
        | refine R.pickF rfl rfl ?_
        | refine R.len rfl ?_
        | refine R.lenA rfl ?_
        | refine R.lenStr rfl ?_
        | refine S.convIU rfl (by omega) ?_
        | refine S.convUI rfl (by omega) ?_
        | refine R.convInt rfl ?_
        | refine R.not rfl ?_
        | refine R.eqPtrNil rfl rfl ?_
        | refine R.extract rfl rfl ?_
        | refine R.field rfl rfl ?_
        | refine R.alloc rfl (fun b hb => ?_)
        | refine R.box rfl rfl rfl (fun b hb => ?_)
        | refine R.build rfl rfl ?_
        | refine R.buildSl rfl rfl rfl (by decide) ?_
        | refine R.toStr rfl ?_
        | refine R.convStr rfl ?_
        | refine R.minmax rfl ?_
        | refine R.makeFunc rfl rfl ?_
        | (first | refine S.lss rfl rfl (fun hlt => ?_) (fun hlt => by exfalso; omega) | refine S.lss rfl rfl (fun hlt => by exfalso; omega) (fun hlt => ?_) | refine S.lss rfl rfl (fun hlt => ?_) (fun hlt => ?_))
        | (first | refine S.gtr rfl rfl (fun hlt => ?_) (fun hlt => by exfalso; omega) | refine S.gtr rfl rfl (fun hlt => by exfalso; omega) (fun hlt => ?_) | refine S.gtr rfl rfl (fun hlt => ?_) (fun hlt => ?_))
        | (first | refine S.leq rfl rfl (fun hlt => ?_) (fun hlt => by exfalso; omega) | refine S.leq rfl rfl (fun hlt => by exfalso; omega) (fun hlt => ?_) | refine S.leq rfl rfl (fun hlt => ?_) (fun hlt => ?_))
        | (first | refine S.geq rfl rfl (fun hlt => ?_) (fun hlt => by exfalso; omega) | refine S.geq rfl rfl (fun hlt => by exfalso; omega) (fun hlt => ?_) | refine S.geq rfl rfl (fun hlt => ?_) (fun hlt => ?_))
        | (first | refine S.eqInt rfl rfl (fun hlt => ?_) (fun hlt => by exfalso; omega) | refine S.eqInt rfl rfl (fun hlt => by exfalso; omega) (fun hlt => ?_) | refine S.eqInt rfl rfl (fun hlt => ?_) (fun hlt => ?_)))
      | (refine S.op0 rfl ?_; first | refine S.store rfl rfl (by first | assumption | exact AHeap.set_same _ _ _ | exact AHeap.get_fresh (by assumption) (by first | assumption | exact AHeap.set_same _ _ _ | exact AHeap.get_fresh (by assumption) (by first | assumption | exact AHeap.set_same _ _ _ | exact AHeap.get_fresh (by assumption) (by first | assumption | exact AHeap.set_same _ _ _) | (refine (AHeap.set_other _ _ (by first | assumption | exact (AHeap.fresh_set (by assumption)).1 | exact Ne.symm (AHeap.fresh_set (by assumption)).1 | exact AHeap.ne_of (by assumption) (by assumption) | exact Ne.symm (AHeap.ne_of (by assumption) (by assumption)) | exact (AHeap.fresh_set (AHeap.fresh_set (by assumption)).2).1 | exact Ne.symm (AHeap.fresh_set (AHeap.fresh_set (by assumption)).2).1)).trans ?_; first | assumption | exact AHeap.set_same _ _ _)) | (refine (AHeap.set_other _ _ (by first | assumption | exact (AHeap.fresh_set (by assumption)).1 | exact Ne.symm (AHeap.fresh_set (by assumption)).1 | exact AHeap.ne_of (by assumption) (by assumption) | exact Ne.symm (AHeap.ne_of (by assumption) (by assumption)) | exact (AHeap.fresh_set (AHeap.fresh_set (by assumption)).2).1 | exact Ne.symm (AHeap.fresh_set (AHeap.fresh_set (by assumption)).2).1)).trans ?_; first | assumption | exact AHeap.set_same _ _ _ | exact AHeap.get_fresh (by assumption) (by first | assumption | exact AHeap.set_same _ _ _) | (refine (AHeap.set_other _ _ (by first | assumption | exact (AHeap.fresh_set (by assumption)).1 | exact Ne.symm (AHeap.fresh_set (by assumption)).1 | exact AHeap.ne_of (by assumption) (by assumption) | exact Ne.symm (AHeap.ne_of (by assumption) (by assumption)) | exact (AHeap.fresh_set (AHeap.fresh_set (by assumption)).2).1 | exact Ne.symm (AHeap.fresh_set (AHeap.fresh_set (by assumption)).2).1)).trans ?_; first | assumption | exact AHeap.set_same _ _ _))) | (refine (AHeap.set_other _ _ (by first | assumption | exact (AHeap.fresh_set (by assumption)).1 | exact Ne.symm (AHeap.fresh_set (by assumption)).1 | exact AHeap.ne_of (by assumption) (by assumption) | exact Ne.symm (AHeap.ne_of (by assumption) (by assumption)) | exact (AHeap.fresh_set (AHeap.fresh_set (by assumption)).2).1 | exact Ne.symm (AHeap.fresh_set (AHeap.fresh_set (by assumption)).2).1)).trans ?_; first | assumption | exact AHeap.set_same _ _ _ | exact AHeap.get_fresh (by assumption) (by first | assumption | exact AHeap.set_same _ _ _ | exact AHeap.get_fresh (by assumption) (by first | assumption | exact AHeap.set_same _ _ _) | (refine (AHeap.set_other _ _ (by first | assumption | exact (AHeap.fresh_set (by assumption)).1 | exact Ne.symm (AHeap.fresh_set (by assumption)).1 | exact AHeap.ne_of (by assumption) (by assumption) | exact Ne.symm (AHeap.ne_of (by assumption) (by assumption)) | exact (AHeap.fresh_set (AHeap.fresh_set (by assumption)).2).1 | exact Ne.symm (AHeap.fresh_set (AHeap.fresh_set (by assumption)).2).1)).trans ?_; first | assumption | exact AHeap.set_same _ _ _)) | (refine (AHeap.set_other _ _ (by first | assumption | exact (AHeap.fresh_set (by assumption)).1 | exact Ne.symm (AHeap.fresh_set (by assumption)).1 | exact AHeap.ne_of (by assumption) (by assumption) | exact Ne.symm (AHeap.ne_of (by assumption) (by assumption)) | exact (AHeap.fresh_set (AHeap.fresh_set (by assumption)).2).1 | exact Ne.symm (AHeap.fresh_set (AHeap.fresh_set (by assumption)).2).1)).trans ?_; first | assumption | exact AHeap.set_same _ _ _ | exact AHeap.get_fresh (by assumption) (by first | assumption | exact AHeap.set_same _ _ _) | (refine (AHeap.set_other _ _ (by first | assumption | exact (AHeap.fresh_set (by assumption)).1 | exact Ne.symm (AHeap.fresh_set (by assumption)).1 | exact AHeap.ne_of (by assumption) (by assumption) | exact Ne.symm (AHeap.ne_of (by assumption) (by assumption)) | exact (AHeap.fresh_set (AHeap.fresh_set (by assumption)).2).1 | exact Ne.symm (AHeap.fresh_set (AHeap.fresh_set (by assumption)).2).1)).trans ?_; first | assumption | exact AHeap.set_same _ _ _)))) rfl rfl rfl (by rfl) rfl ?_)
      | refine S.skip rfl ?_
      | refine S.skip0 rfl ?_
      | refine S.seq ?_
      | refine S.region ?_
      | refine S.condT rfl ?_
      | refine S.condF rfl ?_
      | refine RRun.skip ?_
      | refine RRun.block ?_
      | refine RRun.inBlock ?_
      | refine RRun.exit rfl ?_)
    apply S.ret rr3
    case hx => repeat (first | exact ResAt.nil | apply ResAt.tmp rfl | apply ResAt.cellA rfl (by first | assumption | exact AHeap.set_same _ _ _ | exact AHeap.get_fresh (by assumption) (by first | assumption | exact AHeap.set_same _ _ _ | exact AHeap.get_fresh (by assumption) (by first | assumption | exact AHeap.set_same _ _ _ | exact AHeap.get_fresh (by assumption) (by first | assumption | exact AHeap.set_same _ _ _) | (refine (AHeap.set_other _ _ (by first | assumption | exact (AHeap.fresh_set (by assumption)).1 | exact Ne.symm (AHeap.fresh_set (by assumption)).1 | exact AHeap.ne_of (by assumption) (by assumption) | exact Ne.symm (AHeap.ne_of (by assumption) (by assumption)) | exact (AHeap.fresh_set (AHeap.fresh_set (by assumption)).2).1 | exact Ne.symm (AHeap.fresh_set (AHeap.fresh_set (by assumption)).2).1)).trans ?_; first | assumption | exact AHeap.set_same _ _ _)) | (refine (AHeap.set_other _ _ (by first | assumption | exact (AHeap.fresh_set (by assumption)).1 | exact Ne.symm (AHeap.fresh_set (by assumption)).1 | exact AHeap.ne_of (by assumption) (by assumption) | exact Ne.symm (AHeap.ne_of (by assumption) (by assumption)) | exact (AHeap.fresh_set (AHeap.fresh_set (by assumption)).2).1 | exact Ne.symm (AHeap.fresh_set (AHeap.fresh_set (by assumption)).2).1)).trans ?_; first | assumption | exact AHeap.set_same _ _ _ | exact AHeap.get_fresh (by assumption) (by first | assumption | exact AHeap.set_same _ _ _) | (refine (AHeap.set_other _ _ (by first | assumption | exact (AHeap.fresh_set (by assumption)).1 | exact Ne.symm (AHeap.fresh_set (by assumption)).1 | exact AHeap.ne_of (by assumption) (by assumption) | exact Ne.symm (AHeap.ne_of (by assumption) (by assumption)) | exact (AHeap.fresh_set (AHeap.fresh_set (by assumption)).2).1 | exact Ne.symm (AHeap.fresh_set (AHeap.fresh_set (by assumption)).2).1)).trans ?_; first | assumption | exact AHeap.set_same _ _ _))) | (refine (AHeap.set_other _ _ (by first | assumption | exact (AHeap.fresh_set (by assumption)).1 | exact Ne.symm (AHeap.fresh_set (by assumption)).1 | exact AHeap.ne_of (by assumption) (by assumption) | exact Ne.symm (AHeap.ne_of (by assumption) (by assumption)) | exact (AHeap.fresh_set (AHeap.fresh_set (by assumption)).2).1 | exact Ne.symm (AHeap.fresh_set (AHeap.fresh_set (by assumption)).2).1)).trans ?_; first | assumption | exact AHeap.set_same _ _ _ | exact AHeap.get_fresh (by assumption) (by first | assumption | exact AHeap.set_same _ _ _ | exact AHeap.get_fresh (by assumption) (by first | assumption | exact AHeap.set_same _ _ _) | (refine (AHeap.set_other _ _ (by first | assumption | exact (AHeap.fresh_set (by assumption)).1 | exact Ne.symm (AHeap.fresh_set (by assumption)).1 | exact AHeap.ne_of (by assumption) (by assumption) | exact Ne.symm (AHeap.ne_of (by assumption) (by assumption)) | exact (AHeap.fresh_set (AHeap.fresh_set (by assumption)).2).1 | exact Ne.symm (AHeap.fresh_set (AHeap.fresh_set (by assumption)).2).1)).trans ?_; first | assumption | exact AHeap.set_same _ _ _)) | (refine (AHeap.set_other _ _ (by first | assumption | exact (AHeap.fresh_set (by assumption)).1 | exact Ne.symm (AHeap.fresh_set (by assumption)).1 | exact AHeap.ne_of (by assumption) (by assumption) | exact Ne.symm (AHeap.ne_of (by assumption) (by assumption)) | exact (AHeap.fresh_set (AHeap.fresh_set (by assumption)).2).1 | exact Ne.symm (AHeap.fresh_set (AHeap.fresh_set (by assumption)).2).1)).trans ?_; first | assumption | exact AHeap.set_same _ _ _ | exact AHeap.get_fresh (by assumption) (by first | assumption | exact AHeap.set_same _ _ _) | (refine (AHeap.set_other _ _ (by first | assumption | exact (AHeap.fresh_set (by assumption)).1 | exact Ne.symm (AHeap.fresh_set (by assumption)).1 | exact AHeap.ne_of (by assumption) (by assumption) | exact Ne.symm (AHeap.ne_of (by assumption) (by assumption)) | exact (AHeap.fresh_set (AHeap.fresh_set (by assumption)).2).1 | exact Ne.symm (AHeap.fresh_set (AHeap.fresh_set (by assumption)).2).1)).trans ?_; first | assumption | exact AHeap.set_same _ _ _)))) (by rfl) | apply ResAt.cell1 rfl (by first | assumption | exact AHeap.set_same _ _ _ | exact AHeap.get_fresh (by assumption) (by first | assumption | exact AHeap.set_same _ _ _ | exact AHeap.get_fresh (by assumption) (by first | assumption | exact AHeap.set_same _ _ _ | exact AHeap.get_fresh (by assumption) (by first | assumption | exact AHeap.set_same _ _ _) | (refine (AHeap.set_other _ _ (by first | assumption | exact (AHeap.fresh_set (by assumption)).1 | exact Ne.symm (AHeap.fresh_set (by assumption)).1 | exact AHeap.ne_of (by assumption) (by assumption) | exact Ne.symm (AHeap.ne_of (by assumption) (by assumption)) | exact (AHeap.fresh_set (AHeap.fresh_set (by assumption)).2).1 | exact Ne.symm (AHeap.fresh_set (AHeap.fresh_set (by assumption)).2).1)).trans ?_; first | assumption | exact AHeap.set_same _ _ _)) | (refine (AHeap.set_other _ _ (by first | assumption | exact (AHeap.fresh_set (by assumption)).1 | exact Ne.symm (AHeap.fresh_set (by assumption)).1 | exact AHeap.ne_of (by assumption) (by assumption) | exact Ne.symm (AHeap.ne_of (by assumption) (by assumption)) | exact (AHeap.fresh_set (AHeap.fresh_set (by assumption)).2).1 | exact Ne.symm (AHeap.fresh_set (AHeap.fresh_set (by assumption)).2).1)).trans ?_; first | assumption | exact AHeap.set_same _ _ _ | exact AHeap.get_fresh (by assumption) (by first | assumption | exact AHeap.set_same _ _ _) | (refine (AHeap.set_other _ _ (by first | assumption | exact (AHeap.fresh_set (by assumption)).1 | exact Ne.symm (AHeap.fresh_set (by assumption)).1 | exact AHeap.ne_of (by assumption) (by assumption) | exact Ne.symm (AHeap.ne_of (by assumption) (by assumption)) | exact (AHeap.fresh_set (AHeap.fresh_set (by assumption)).2).1 | exact Ne.symm (AHeap.fresh_set (AHeap.fresh_set (by assumption)).2).1)).trans ?_; first | assumption | exact AHeap.set_same _ _ _))) | (refine (AHeap.set_other _ _ (by first | assumption | exact (AHeap.fresh_set (by assumption)).1 | exact Ne.symm (AHeap.fresh_set (by assumption)).1 | exact AHeap.ne_of (by assumption) (by assumption) | exact Ne.symm (AHeap.ne_of (by assumption) (by assumption)) | exact (AHeap.fresh_set (AHeap.fresh_set (by assumption)).2).1 | exact Ne.symm (AHeap.fresh_set (AHeap.fresh_set (by assumption)).2).1)).trans ?_; first | assumption | exact AHeap.set_same _ _ _ | exact AHeap.get_fresh (by assumption) (by first | assumption | exact AHeap.set_same _ _ _ | exact AHeap.get_fresh (by assumption) (by first | assumption | exact AHeap.set_same _ _ _) | (refine (AHeap.set_other _ _ (by first | assumption | exact (AHeap.fresh_set (by assumption)).1 | exact Ne.symm (AHeap.fresh_set (by assumption)).1 | exact AHeap.ne_of (by assumption) (by assumption) | exact Ne.symm (AHeap.ne_of (by assumption) (by assumption)) | exact (AHeap.fresh_set (AHeap.fresh_set (by assumption)).2).1 | exact Ne.symm (AHeap.fresh_set (AHeap.fresh_set (by assumption)).2).1)).trans ?_; first | assumption | exact AHeap.set_same _ _ _)) | (refine (AHeap.set_other _ _ (by first | assumption | exact (AHeap.fresh_set (by assumption)).1 | exact Ne.symm (AHeap.fresh_set (by assumption)).1 | exact AHeap.ne_of (by assumption) (by assumption) | exact Ne.symm (AHeap.ne_of (by assumption) (by assumption)) | exact (AHeap.fresh_set (AHeap.fresh_set (by assumption)).2).1 | exact Ne.symm (AHeap.fresh_set (AHeap.fresh_set (by assumption)).2).1)).trans ?_; first | assumption | exact AHeap.set_same _ _ _ | exact AHeap.get_fresh (by assumption) (by first | assumption | exact AHeap.set_same _ _ _) | (refine (AHeap.set_other _ _ (by first | assumption | exact (AHeap.fresh_set (by assumption)).1 | exact Ne.symm (AHeap.fresh_set (by assumption)).1 | exact AHeap.ne_of (by assumption) (by assumption) | exact Ne.symm (AHeap.ne_of (by assumption) (by assumption)) | exact (AHeap.fresh_set (AHeap.fresh_set (by assumption)).2).1 | exact Ne.symm (AHeap.fresh_set (AHeap.fresh_set (by assumption)).2).1)).trans ?_; first | assumption | exact AHeap.set_same _ _ _)))) (by rfl))
    exact ⟨_, _, .refl _, (by repeat (first | exact AHeap.le.refl _ | refine AHeap.le.set ?_ _ (by first | assumption | exact (AHeap.fresh_set (by assumption)).2 | exact (AHeap.fresh_set (AHeap.fresh_set (by assumption)).2).2 | exact (AHeap.fresh_set (AHeap.fresh_set (AHeap.fresh_set (by assumption)).2).2).2 | exact (AHeap.fresh_set (AHeap.fresh_set (AHeap.fresh_set (AHeap.fresh_set (by assumption)).2).2).2).2) | refine AHeap.le.both ?_ _ _)), rfl, rfl⟩
  | true =>
  rw [hs3] at c3
  match m, hm, hlenm, c3, hs3 with
  | [], hm, hlenm, c3, hs3 =>
    repeat' (first
      | refine S.nilK ?_
      | (refine S.op rfl ?_; first
        | refine R.callQ (by decide) rfl (awake_spec _) ?_
        | refine R.callQ (by decide) rfl (c1 _) ?_
        | refine R.callQ (by decide) rfl (c2 _) ?_
        | refine R.callQ (by decide) rfl (c3 _) ?_
        | refine R.eqInt rfl rfl ?_
        | refine R.mv rfl ?_
        | refine R.fieldAddr rfl ?_
        | refine R.fieldAddrR rfl ?_
        | refine R.nilCheck rfl ?_
        | refine R.nilCheckR rfl ?_
        | refine R.loadR rfl rfl ?_
        | refine R.load (by decide) rfl (by first | assumption | exact AHeap.set_same _ _ _ | exact AHeap.get_fresh (by assumption) (by first | assumption | exact AHeap.set_same _ _ _ | exact AHeap.get_fresh (by assumption) (by first | assumption | exact AHeap.set_same _ _ _ | exact AHeap.get_fresh (by assumption) (by first | assumption | exact AHeap.set_same _ _ _) | (refine (AHeap.set_other _ _ (by first | assumption | exact (AHeap.fresh_set (by assumption)).1 | exact Ne.symm (AHeap.fresh_set (by assumption)).1 | exact AHeap.ne_of (by assumption) (by assumption) | exact Ne.symm (AHeap.ne_of (by assumption) (by assumption)) | exact (AHeap.fresh_set (AHeap.fresh_set (by assumption)).2).1 | exact Ne.symm (AHeap.fresh_set (AHeap.fresh_set (by assumption)).2).1)).trans ?_; first | assumption | exact AHeap.set_same _ _ _)) | (refine (AHeap.set_other _ _ (by first | assumption | exact (AHeap.fresh_set (by assumption)).1 | exact Ne.symm (AHeap.fresh_set (by assumption)).1 | exact AHeap.ne_of (by assumption) (by assumption) | exact Ne.symm (AHeap.ne_of (by assumption) (by assumption)) | exact (AHeap.fresh_set (AHeap.fresh_set (by assumption)).2).1 | exact Ne.symm (AHeap.fresh_set (AHeap.fresh_set (by assumption)).2).1)).trans ?_; first | assumption | exact AHeap.set_same _ _ _ | exact AHeap.get_fresh (by assumption) (by first | assumption | exact AHeap.set_same _ _ _) | (refine (AHeap.set_other _ _ (by first | assumption | exact (AHeap.fresh_set (by assumption)).1 | exact Ne.symm (AHeap.fresh_set (by assumption)).1 | exact AHeap.ne_of (by assumption) (by assumption) | exact Ne.symm (AHeap.ne_of (by assumption) (by assumption)) | exact (AHeap.fresh_set (AHeap.fresh_set (by assumption)).2).1 | exact Ne.symm (AHeap.fresh_set (AHeap.fresh_set (by assumption)).2).1)).trans ?_; first | assumption | exact AHeap.set_same _ _ _))) | (refine (AHeap.set_other _ _ (by first | assumption | exact (AHeap.fresh_set (by assumption)).1 | exact Ne.symm (AHeap.fresh_set (by assumption)).1 | exact AHeap.ne_of (by assumption) (by assumption) | exact Ne.symm (AHeap.ne_of (by assumption) (by assumption)) | exact (AHeap.fresh_set (AHeap.fresh_set (by assumption)).2).1 | exact Ne.symm (AHeap.fresh_set (AHeap.fresh_set (by assumption)).2).1)).trans ?_; first | assumption | exact AHeap.set_same _ _ _ | exact AHeap.get_fresh (by assumption) (by first | assumption | exact AHeap.set_same _ _ _ | exact AHeap.get_fresh (by assumption) (by first | assumption | exact AHeap.set_same _ _ _) | (refine (AHeap.set_other _ _ (by first | assumption | exact (AHeap.fresh_set (by assumption)).1 | exact Ne.symm (AHeap.fresh_set (by assumption)).1 | exact AHeap.ne_of (by assumption) (by assumption) | exact Ne.symm (AHeap.ne_of (by assumption) (by assumption)) | exact (AHeap.fresh_set (AHeap.fresh_set (by assumption)).2).1 | exact Ne.symm (AHeap.fresh_set (AHeap.fresh_set (by assumption)).2).1)).trans ?_; first | assumption | exact AHeap.set_same _ _ _)) | (refine (AHeap.set_other _ _ (by first | assumption | exact (AHeap.fresh_set (by assumption)).1 | exact Ne.symm (AHeap.fresh_set (by assumption)).1 | exact AHeap.ne_of (by assumption) (by assumption) | exact Ne.symm (AHeap.ne_of (by assumption) (by assumption)) | exact (AHeap.fresh_set (AHeap.fresh_set (by assumption)).2).1 | exact Ne.symm (AHeap.fresh_set (AHeap.fresh_set (by assumption)).2).1)).trans ?_; first | assumption | exact AHeap.set_same _ _ _ | exact AHeap.get_fresh (by assumption) (by first | assumption | exact AHeap.set_same _ _ _) | (refine (AHeap.set_other _ _ (by first | assumption | exact (AHeap.fresh_set (by assumption)).1 | exact Ne.symm (AHeap.fresh_set (by assumption)).1 | exact AHeap.ne_of (by assumption) (by assumption) | exact Ne.symm (AHeap.ne_of (by assumption) (by assumption)) | exact (AHeap.fresh_set (AHeap.fresh_set (by assumption)).2).1 | exact Ne.symm (AHeap.fresh_set (AHeap.fresh_set (by assumption)).2).1)).trans ?_; first | assumption | exact AHeap.set_same _ _ _)))) rfl ?_
        | refine S.addI rfl rfl (by omega) ?_
        | refine S.subI rfl rfl (by omega) ?_
        | refine S.addU rfl rfl ?_
        | refine S.subU rfl rfl ?_
        | refine S.addUc rfl (by decide) ?_
        | refine S.subUc rfl (by decide) ?_
        | refine S.arith rfl rfl rfl ?_
        | refine R.pickT rfl rfl ?_
        | refine R.pickF rfl rfl ?_
        | refine R.len rfl ?_
        | refine R.lenA rfl ?_
        | refine R.lenStr rfl ?_
        | refine S.convIU rfl (by omega) ?_
        | refine S.convUI rfl (by omega) ?_
        | refine R.convInt rfl ?_
        | refine R.not rfl ?_
        | refine R.eqPtrNil rfl rfl ?_
        | refine R.extract rfl rfl ?_
        | refine R.field rfl rfl ?_
        | refine R.alloc rfl (fun b hb => ?_)
        | refine R.box rfl rfl rfl (fun b hb => ?_)
        | refine R.build rfl rfl ?_
        | refine R.buildSl rfl rfl rfl (by decide) ?_
        | refine R.toStr rfl ?_
        | refine R.convStr rfl ?_
        | refine R.minmax rfl ?_
        | refine R.makeFunc rfl rfl ?_
        | (first | refine S.lss rfl rfl (fun hlt => ?_) (fun hlt => by exfalso; omega) | refine S.lss rfl rfl (fun hlt => by exfalso; omega) (fun hlt => ?_) | refine S.lss rfl rfl (fun hlt => ?_) (fun hlt => ?_))
        | (first | refine S.gtr rfl rfl (fun hlt => ?_) (fun hlt => by exfalso; omega) | refine S.gtr rfl rfl (fun hlt => by exfalso; omega) (fun hlt => ?_) | refine S.gtr rfl rfl (fun hlt => ?_) (fun hlt => ?_))
        | (first | refine S.leq rfl rfl (fun hlt => ?_) (fun hlt => by exfalso; omega) | refine S.leq rfl rfl (fun hlt => by exfalso; omega) (fun hlt => ?_) | refine S.leq rfl rfl (fun hlt => ?_) (fun hlt => ?_))
        | (first | refine S.geq rfl rfl (fun hlt => ?_) (fun hlt => by exfalso; omega) | refine S.geq rfl rfl (fun hlt => by exfalso; omega) (fun hlt => ?_) | refine S.geq rfl rfl (fun hlt => ?_) (fun hlt => ?_))
        | (first | refine S.eqInt rfl rfl (fun hlt => ?_) (fun hlt => by exfalso; omega) | refine S.eqInt rfl rfl (fun hlt => by exfalso; omega) (fun hlt => ?_) | refine S.eqInt rfl rfl (fun hlt => ?_) (fun hlt => ?_)))
      | (refine S.op0 rfl ?_; first | refine S.store rfl rfl (by first | assumption | exact AHeap.set_same _ _ _ | exact AHeap.get_fresh (by assumption) (by first | assumption | exact AHeap.set_same _ _ _ | exact AHeap.get_fresh (by assumption) (by first | assumption | exact AHeap.set_same _ _ _ | exact AHeap.get_fresh (by assumption) (by first | assumption | exact AHeap.set_same _ _ _) | (refine (AHeap.set_other _ _ (by first | assumption | exact (AHeap.fresh_set (by assumption)).1 | exact Ne.symm (AHeap.fresh_set (by assumption)).1 | exact AHeap.ne_of (by assumption) (by assumption) | exact Ne.symm (AHeap.ne_of (by assumption) (by assumption)) | exact (AHeap.fresh_set (AHeap.fresh_set (by assumption)).2).1 | exact Ne.symm (AHeap.fresh_set (AHeap.fresh_set (by assumption)).2).1)).trans ?_; first | assumption | exact AHeap.set_same _ _ _)) | (refine (AHeap.set_other _ _ (by first | assumption | exact (AHeap.fresh_set (by assumption)).1 | exact Ne.symm (AHeap.fresh_set (by assumption)).1 | exact AHeap.ne_of (by assumption) (by assumption) | exact Ne.symm (AHeap.ne_of (by assumption) (by assumption)) | exact (AHeap.fresh_set (AHeap.fresh_set (by assumption)).2).1 | exact Ne.symm (AHeap.fresh_set (AHeap.fresh_set (by assumption)).2).1)).trans ?_; first | assumption | exact AHeap.set_same _ _ _ | exact AHeap.get_fresh (by assumption) (by first | assumption | exact AHeap.set_same _ _ _) | (refine (AHeap.set_other _ _ (by first | assumption | exact (AHeap.fresh_set (by assumption)).1 | exact Ne.symm (AHeap.fresh_set (by assumption)).1 | exact AHeap.ne_of (by assumption) (by assumption) | exact Ne.symm (AHeap.ne_of (by assumption) (by assumption)) | exact (AHeap.fresh_set (AHeap.fresh_set (by assumption)).2).1 | exact Ne.symm (AHeap.fresh_set (AHeap.fresh_set (by assumption)).2).1)).trans ?_; first | assumption | exact AHeap.set_same _ _ _))) | (refine (AHeap.set_other _ _ (by first | assumption | exact (AHeap.fresh_set (by assumption)).1 | exact Ne.symm (AHeap.fresh_set (by assumption)).1 | exact AHeap.ne_of (by assumption) (by assumption) | exact Ne.symm (AHeap.ne_of (by assumption) (by assumption)) | exact (AHeap.fresh_set (AHeap.fresh_set (by assumption)).2).1 | exact Ne.symm (AHeap.fresh_set (AHeap.fresh_set (by assumption)).2).1)).trans ?_; first | assumption | exact AHeap.set_same _ _ _ | exact AHeap.get_fresh (by assumption) (by first | assumption | exact AHeap.set_same _ _ _ | exact AHeap.get_fresh (by assumption) (by first | assumption | exact AHeap.set_same _ _ _) | (refine (AHeap.set_other _ _ (by first | assumption | exact (AHeap.fresh_set (by assumption)).1 | exact Ne.symm (AHeap.fresh_set (by assumption)).1 | exact AHeap.ne_of (by assumption) (by assumption) | exact Ne.symm (AHeap.ne_of (by assumption) (by assumption)) | exact (AHeap.fresh_set (AHeap.fresh_set (by assumption)).2).1 | exact Ne.symm (AHeap.fresh_set (AHeap.fresh_set (by assumption)).2).1)).trans ?_; first | assumption | exact AHeap.set_same _ _ _)) | (refine (AHeap.set_other _ _ (by first | assumption | exact (AHeap.fresh_set (by assumption)).1 | exact Ne.symm (AHeap.fresh_set (by assumption)).1 | exact AHeap.ne_of (by assumption) (by assumption) | exact Ne.symm (AHeap.ne_of (by assumption) (by assumption)) | exact (AHeap.fresh_set (AHeap.fresh_set (by assumption)).2).1 | exact Ne.symm (AHeap.fresh_set (AHeap.fresh_set (by assumption)).2).1)).trans ?_; first | assumption | exact AHeap.set_same _ _ _ | exact AHeap.get_fresh (by assumption) (by first | assumption | exact AHeap.set_same _ _ _) | (refine (AHeap.set_other _ _ (by first | assumption | exact (AHeap.fresh_set (by assumption)).1 | exact Ne.symm (AHeap.fresh_set (by assumption)).1 | exact AHeap.ne_of (by assumption) (by assumption) | exact Ne.symm (AHeap.ne_of (by assumption) (by assumption)) | exact (AHeap.fresh_set (AHeap.fresh_set (by assumption)).2).1 | exact Ne.symm (AHeap.fresh_set (AHeap.fresh_set (by assumption)).2).1)).trans ?_; first | assumption | exact AHeap.set_same _ _ _)))) rfl rfl rfl (by rfl) rfl ?_)
      | refine S.skip rfl ?_
      | refine S.skip0 rfl ?_
      | refine S.seq ?_
      | refine S.region ?_
      | refine S.condT rfl ?_
      | refine S.condF rfl ?_
      | refine RRun.skip ?_
      | refine RRun.block ?_
      | refine RRun.inBlock ?_
      | refine RRun.exit rfl ?_)
    apply S.ret rr3
    case hx => repeat (first | exact ResAt.nil | apply ResAt.tmp rfl | apply ResAt.cellA rfl (by first | assumption | exact AHeap.set_same _ _ _ | exact AHeap.get_fresh (by assumption) (by first | assumption | exact AHeap.set_same _ _ _ | exact AHeap.get_fresh (by assumption) (by first | assumption | exact AHeap.set_same _ _ _ | exact AHeap.get_fresh (by assumption) (by first | assumption | exact AHeap.set_same _ _ _) | (refine (AHeap.set_other _ _ (by first | assumption | exact (AHeap.fresh_set (by assumption)).1 | exact Ne.symm (AHeap.fresh_set (by assumption)).1 | exact AHeap.ne_of (by assumption) (by assumption) | exact Ne.symm (AHeap.ne_of (by assumption) (by assumption)) | exact (AHeap.fresh_set (AHeap.fresh_set (by assumption)).2).1 | exact Ne.symm (AHeap.fresh_set (AHeap.fresh_set (by assumption)).2).1)).trans ?_; first | assumption | exact AHeap.set_same _ _ _)) | (refine (AHeap.set_other _ _ (by first | assumption | exact (AHeap.fresh_set (by assumption)).1 | exact Ne.symm (AHeap.fresh_set (by assumption)).1 | exact AHeap.ne_of (by assumption) (by assumption) | exact Ne.symm (AHeap.ne_of (by assumption) (by assumption)) | exact (AHeap.fresh_set (AHeap.fresh_set (by assumption)).2).1 | exact Ne.symm (AHeap.fresh_set (AHeap.fresh_set (by assumption)).2).1)).trans ?_; first | assumption | exact AHeap.set_same _ _ _ | exact AHeap.get_fresh (by assumption) (by first | assumption | exact AHeap.set_same _ _ _) | (refine (AHeap.set_other _ _ (by first | assumption | exact (AHeap.fresh_set (by assumption)).1 | exact Ne.symm (AHeap.fresh_set (by assumption)).1 | exact AHeap.ne_of (by assumption) (by assumption) | exact Ne.symm (AHeap.ne_of (by assumption) (by assumption)) | exact (AHeap.fresh_set (AHeap.fresh_set (by assumption)).2).1 | exact Ne.symm (AHeap.fresh_set (AHeap.fresh_set (by assumption)).2).1)).trans ?_; first | assumption | exact AHeap.set_same _ _ _))) | (refine (AHeap.set_other _ _ (by first | assumption | exact (AHeap.fresh_set (by assumption)).1 | exact Ne.symm (AHeap.fresh_set (by assumption)).1 | exact AHeap.ne_of (by assumption) (by assumption) | exact Ne.symm (AHeap.ne_of (by assumption) (by assumption)) | exact (AHeap.fresh_set (AHeap.fresh_set (by assumption)).2).1 | exact Ne.symm (AHeap.fresh_set (AHeap.fresh_set (by assumption)).2).1)).trans ?_; first | assumption | exact AHeap.set_same _ _ _ | exact AHeap.get_fresh (by assumption) (by first | assumption | exact AHeap.set_same _ _ _ | exact AHeap.get_fresh (by assumption) (by first | assumption | exact AHeap.set_same _ _ _) | (refine (AHeap.set_other _ _ (by first | assumption | exact (AHeap.fresh_set (by assumption)).1 | exact Ne.symm (AHeap.fresh_set (by assumption)).1 | exact AHeap.ne_of (by assumption) (by assumption) | exact Ne.symm (AHeap.ne_of (by assumption) (by assumption)) | exact (AHeap.fresh_set (AHeap.fresh_set (by assumption)).2).1 | exact Ne.symm (AHeap.fresh_set (AHeap.fresh_set (by assumption)).2).1)).trans ?_; first | assumption | exact AHeap.set_same _ _ _)) | (refine (AHeap.set_other _ _ (by first | assumption | exact (AHeap.fresh_set (by assumption)).1 | exact Ne.symm (AHeap.fresh_set (by assumption)).1 | exact AHeap.ne_of (by assumption) (by assumption) | exact Ne.symm (AHeap.ne_of (by assumption) (by assumption)) | exact (AHeap.fresh_set (AHeap.fresh_set (by assumption)).2).1 | exact Ne.symm (AHeap.fresh_set (AHeap.fresh_set (by assumption)).2).1)).trans ?_; first | assumption | exact AHeap.set_same _ _ _ | exact AHeap.get_fresh (by assumption) (by first | assumption | exact AHeap.set_same _ _ _) | (refine (AHeap.set_other _ _ (by first | assumption | exact (AHeap.fresh_set (by assumption)).1 | exact Ne.symm (AHeap.fresh_set (by assumption)).1 | exact AHeap.ne_of (by assumption) (by assumption) | exact Ne.symm (AHeap.ne_of (by assumption) (by assumption)) | exact (AHeap.fresh_set (AHeap.fresh_set (by assumption)).2).1 | exact Ne.symm (AHeap.fresh_set (AHeap.fresh_set (by assumption)).2).1)).trans ?_; first | assumption | exact AHeap.set_same _ _ _)))) (by rfl) | apply ResAt.cell1 rfl (by first | assumption | exact AHeap.set_same _ _ _ | exact AHeap.get_fresh (by assumption) (by first | assumption | exact AHeap.set_same _ _ _ | exact AHeap.get_fresh (by assumption) (by first | assumption | exact AHeap.set_same _ _ _ | exact AHeap.get_fresh (by assumption) (by first | assumption | exact AHeap.set_same _ _ _) | (refine (AHeap.set_other _ _ (by first | assumption | exact (AHeap.fresh_set (by assumption)).1 | exact Ne.symm (AHeap.fresh_set (by assumption)).1 | exact AHeap.ne_of (by assumption) (by assumption) | exact Ne.symm (AHeap.ne_of (by assumption) (by assumption)) | exact (AHeap.fresh_set (AHeap.fresh_set (by assumption)).2).1 | exact Ne.symm (AHeap.fresh_set (AHeap.fresh_set (by assumption)).2).1)).trans ?_; first | assumption | exact AHeap.set_same _ _ _)) | (refine (AHeap.set_other _ _ (by first | assumption | exact (AHeap.fresh_set (by assumption)).1 | exact Ne.symm (AHeap.fresh_set (by assumption)).1 | exact AHeap.ne_of (by assumption) (by assumption) | exact Ne.symm (AHeap.ne_of (by assumption) (by assumption)) | exact (AHeap.fresh_set (AHeap.fresh_set (by assumption)).2).1 | exact Ne.symm (AHeap.fresh_set (AHeap.fresh_set (by assumption)).2).1)).trans ?_; first | assumption | exact AHeap.set_same _ _ _ | exact AHeap.get_fresh (by assumption) (by first | assumption | exact AHeap.set_same _ _ _) | (refine (AHeap.set_other _ _ (by first | assumption | exact (AHeap.fresh_set (by assumption)).1 | exact Ne.symm (AHeap.fresh_set (by assumption)).1 | exact AHeap.ne_of (by assumption) (by assumption) | exact Ne.symm (AHeap.ne_of (by assumption) (by assumption)) | exact (AHeap.fresh_set (AHeap.fresh_set (by assumption)).2).1 | exact Ne.symm (AHeap.fresh_set (AHeap.fresh_set (by assumption)).2).1)).trans ?_; first | assumption | exact AHeap.set_same _ _ _))) | (refine (AHeap.set_other _ _ (by first | assumption | exact (AHeap.fresh_set (by assumption)).1 | exact Ne.symm (AHeap.fresh_set (by assumption)).1 | exact AHeap.ne_of (by assumption) (by assumption) | exact Ne.symm (AHeap.ne_of (by assumption) (by assumption)) | exact (AHeap.fresh_set (AHeap.fresh_set (by assumption)).2).1 | exact Ne.symm (AHeap.fresh_set (AHeap.fresh_set (by assumption)).2).1)).trans ?_; first | assumption | exact AHeap.set_same _ _ _ | exact AHeap.get_fresh (by assumption) (by first | assumption | exact AHeap.set_same _ _ _ | exact AHeap.get_fresh (by assumption) (by first | assumption | exact AHeap.set_same _ _ _) | (refine (AHeap.set_other _ _ (by first | assumption | exact (AHeap.fresh_set (by assumption)).1 | exact Ne.symm (AHeap.fresh_set (by assumption)).1 | exact AHeap.ne_of (by assumption) (by assumption) | exact Ne.symm (AHeap.ne_of (by assumption) (by assumption)) | exact (AHeap.fresh_set (AHeap.fresh_set (by assumption)).2).1 | exact Ne.symm (AHeap.fresh_set (AHeap.fresh_set (by assumption)).2).1)).trans ?_; first | assumption | exact AHeap.set_same _ _ _)) | (refine (AHeap.set_other _ _ (by first | assumption | exact (AHeap.fresh_set (by assumption)).1 | exact Ne.symm (AHeap.fresh_set (by assumption)).1 | exact AHeap.ne_of (by assumption) (by assumption) | exact Ne.symm (AHeap.ne_of (by assumption) (by assumption)) | exact (AHeap.fresh_set (AHeap.fresh_set (by assumption)).2).1 | exact Ne.symm (AHeap.fresh_set (AHeap.fresh_set (by assumption)).2).1)).trans ?_; first | assumption | exact AHeap.set_same _ _ _ | exact AHeap.get_fresh (by assumption) (by first | assumption | exact AHeap.set_same _ _ _) | (refine (AHeap.set_other _ _ (by first | assumption | exact (AHeap.fresh_set (by assumption)).1 | exact Ne.symm (AHeap.fresh_set (by assumption)).1 | exact AHeap.ne_of (by assumption) (by assumption) | exact Ne.symm (AHeap.ne_of (by assumption) (by assumption)) | exact (AHeap.fresh_set (AHeap.fresh_set (by assumption)).2).1 | exact Ne.symm (AHeap.fresh_set (AHeap.fresh_set (by assumption)).2).1)).trans ?_; first | assumption | exact AHeap.set_same _ _ _)))) (by rfl))
    exact ⟨_, _, .refl _, (by repeat (first | exact AHeap.le.refl _ | refine AHeap.le.set ?_ _ (by first | assumption | exact (AHeap.fresh_set (by assumption)).2 | exact (AHeap.fresh_set (AHeap.fresh_set (by assumption)).2).2 | exact (AHeap.fresh_set (AHeap.fresh_set (AHeap.fresh_set (by assumption)).2).2).2 | exact (AHeap.fresh_set (AHeap.fresh_set (AHeap.fresh_set (AHeap.fresh_set (by assumption)).2).2).2).2) | refine AHeap.le.both ?_ _ _)), rfl, rfl⟩
  | x :: r, hm, hlenm, c3, hs3 =>
  have hpos : 0 < ((x :: r).map Entry.cells).length := by simp
  simp only [Snap.small, small, Bool.and_eq_true, decide_eq_true_eq, List.all_eq_true] at hs1 hs2 hs3
  repeat' (first
    | refine S.nilK ?_
    | (refine S.op rfl ?_; first
      | refine R.callQ (by decide) rfl (awake_spec _) ?_
      | refine R.callQ (by decide) rfl (c1 _) ?_
      | refine R.callQ (by decide) rfl (c2 _) ?_
      | refine R.callQ (by decide) rfl (c3 _) ?_
      | refine R.mv rfl ?_
      | refine R.fieldAddr rfl ?_
      | refine R.fieldAddrR rfl ?_
      | refine R.nilCheck rfl ?_
      | refine R.nilCheckR rfl ?_
      | refine R.loadR rfl rfl ?_
      | refine R.load (by decide) rfl (by first | assumption | exact AHeap.set_same _ _ _ | exact AHeap.get_fresh (by assumption) (by first | assumption | exact AHeap.set_same _ _ _ | exact AHeap.get_fresh (by assumption) (by first | assumption | exact AHeap.set_same _ _ _ | exact AHeap.get_fresh (by assumption) (by first | assumption | exact AHeap.set_same _ _ _) | (refine (AHeap.set_other _ _ (by first | assumption | exact (AHeap.fresh_set (by assumption)).1 | exact Ne.symm (AHeap.fresh_set (by assumption)).1 | exact AHeap.ne_of (by assumption) (by assumption) | exact Ne.symm (AHeap.ne_of (by assumption) (by assumption)) | exact (AHeap.fresh_set (AHeap.fresh_set (by assumption)).2).1 | exact Ne.symm (AHeap.fresh_set (AHeap.fresh_set (by assumption)).2).1)).trans ?_; first | assumption | exact AHeap.set_same _ _ _)) | (refine (AHeap.set_other _ _ (by first | assumption | exact (AHeap.fresh_set (by assumption)).1 | exact Ne.symm (AHeap.fresh_set (by assumption)).1 | exact AHeap.ne_of (by assumption) (by assumption) | exact Ne.symm (AHeap.ne_of (by assumption) (by assumption)) | exact (AHeap.fresh_set (AHeap.fresh_set (by assumption)).2).1 | exact Ne.symm (AHeap.fresh_set (AHeap.fresh_set (by assumption)).2).1)).trans ?_; first | assumption | exact AHeap.set_same _ _ _ | exact AHeap.get_fresh (by assumption) (by first | assumption | exact AHeap.set_same _ _ _) | (refine (AHeap.set_other _ _ (by first | assumption | exact (AHeap.fresh_set (by assumption)).1 | exact Ne.symm (AHeap.fresh_set (by assumption)).1 | exact AHeap.ne_of (by assumption) (by assumption) | exact Ne.symm (AHeap.ne_of (by assumption) (by assumption)) | exact (AHeap.fresh_set (AHeap.fresh_set (by assumption)).2).1 | exact Ne.symm (AHeap.fresh_set (AHeap.fresh_set (by assumption)).2).1)).trans ?_; first | assumption | exact AHeap.set_same _ _ _))) | (refine (AHeap.set_other _ _ (by first | assumption | exact (AHeap.fresh_set (by assumption)).1 | exact Ne.symm (AHeap.fresh_set (by assumption)).1 | exact AHeap.ne_of (by assumption) (by assumption) | exact Ne.symm (AHeap.ne_of (by assumption) (by assumption)) | exact (AHeap.fresh_set (AHeap.fresh_set (by assumption)).2).1 | exact Ne.symm (AHeap.fresh_set (AHeap.fresh_set (by assumption)).2).1)).trans ?_; first | assumption | exact AHeap.set_same _ _ _ | exact AHeap.get_fresh (by assumption) (by first | assumption | exact AHeap.set_same _ _ _ | exact AHeap.get_fresh (by assumption) (by first | assumption | exact AHeap.set_same _ _ _) | (refine (AHeap.set_other _ _ (by first | assumption | exact (AHeap.fresh_set (by assumption)).1 | exact Ne.symm (AHeap.fresh_set (by assumption)).1 | exact AHeap.ne_of (by assumption) (by assumption) | exact Ne.symm (AHeap.ne_of (by assumption) (by assumption)) | exact (AHeap.fresh_set (AHeap.fresh_set (by assumption)).2).1 | exact Ne.symm (AHeap.fresh_set (AHeap.fresh_set (by assumption)).2).1)).trans ?_; first | assumption | exact AHeap.set_same _ _ _)) | (refine (AHeap.set_other _ _ (by first | assumption | exact (AHeap.fresh_set (by assumption)).1 | exact Ne.symm (AHeap.fresh_set (by assumption)).1 | exact AHeap.ne_of (by assumption) (by assumption) | exact Ne.symm (AHeap.ne_of (by assumption) (by assumption)) | exact (AHeap.fresh_set (AHeap.fresh_set (by assumption)).2).1 | exact Ne.symm (AHeap.fresh_set (AHeap.fresh_set (by assumption)).2).1)).trans ?_; first | assumption | exact AHeap.set_same _ _ _ | exact AHeap.get_fresh (by assumption) (by first | assumption | exact AHeap.set_same _ _ _) | (refine (AHeap.set_other _ _ (by first | assumption | exact (AHeap.fresh_set (by assumption)).1 | exact Ne.symm (AHeap.fresh_set (by assumption)).1 | exact AHeap.ne_of (by assumption) (by assumption) | exact Ne.symm (AHeap.ne_of (by assumption) (by assumption)) | exact (AHeap.fresh_set (AHeap.fresh_set (by assumption)).2).1 | exact Ne.symm (AHeap.fresh_set (AHeap.fresh_set (by assumption)).2).1)).trans ?_; first | assumption | exact AHeap.set_same _ _ _)))) rfl ?_
      | refine S.addI rfl rfl (by omega) ?_
      | refine S.subI rfl rfl (by omega) ?_
      | refine S.addU rfl rfl ?_
      | refine S.subU rfl rfl ?_
      | refine S.addUc rfl (by decide) ?_
      | refine S.subUc rfl (by decide) ?_
      | refine S.arith rfl rfl rfl ?_
      | refine R.pickT rfl rfl ?_
      | refine R.pickF rfl rfl ?_
      | refine R.len rfl ?_
      | refine R.lenA rfl ?_
      | refine R.lenStr rfl ?_
      | refine S.convIU rfl (by omega) ?_
      | refine S.convUI rfl (by omega) ?_
      | refine R.convInt rfl ?_
      | refine R.not rfl ?_
      | refine R.eqPtrNil rfl rfl ?_
      | refine R.extract rfl rfl ?_
      | refine R.field rfl rfl ?_
      | refine R.alloc rfl (fun b hb => ?_)
      | refine R.box rfl rfl rfl (fun b hb => ?_)
      | refine R.build rfl rfl ?_
      | refine R.buildSl rfl rfl rfl (by decide) ?_
      | refine R.toStr rfl ?_
      | refine R.convStr rfl ?_
      | refine R.minmax rfl ?_
      | refine R.makeFunc rfl rfl ?_
      | (first | refine S.lss rfl rfl (fun hlt => ?_) (fun hlt => by exfalso; omega) | refine S.lss rfl rfl (fun hlt => by exfalso; omega) (fun hlt => ?_) | refine S.lss rfl rfl (fun hlt => ?_) (fun hlt => ?_))
      | (first | refine S.gtr rfl rfl (fun hlt => ?_) (fun hlt => by exfalso; omega) | refine S.gtr rfl rfl (fun hlt => by exfalso; omega) (fun hlt => ?_) | refine S.gtr rfl rfl (fun hlt => ?_) (fun hlt => ?_))
      | (first | refine S.leq rfl rfl (fun hlt => ?_) (fun hlt => by exfalso; omega) | refine S.leq rfl rfl (fun hlt => by exfalso; omega) (fun hlt => ?_) | refine S.leq rfl rfl (fun hlt => ?_) (fun hlt => ?_))
      | (first | refine S.geq rfl rfl (fun hlt => ?_) (fun hlt => by exfalso; omega) | refine S.geq rfl rfl (fun hlt => by exfalso; omega) (fun hlt => ?_) | refine S.geq rfl rfl (fun hlt => ?_) (fun hlt => ?_))
      | (first | refine S.eqInt rfl rfl (fun hlt => ?_) (fun hlt => by exfalso; omega) | refine S.eqInt rfl rfl (fun hlt => by exfalso; omega) (fun hlt => ?_) | refine S.eqInt rfl rfl (fun hlt => ?_) (fun hlt => ?_)))
    | (refine S.op0 rfl ?_; first | refine S.store rfl rfl (by first | assumption | exact AHeap.set_same _ _ _ | exact AHeap.get_fresh (by assumption) (by first | assumption | exact AHeap.set_same _ _ _ | exact AHeap.get_fresh (by assumption) (by first | assumption | exact AHeap.set_same _ _ _ | exact AHeap.get_fresh (by assumption) (by first | assumption | exact AHeap.set_same _ _ _) | (refine (AHeap.set_other _ _ (by first | assumption | exact (AHeap.fresh_set (by assumption)).1 | exact Ne.symm (AHeap.fresh_set (by assumption)).1 | exact AHeap.ne_of (by assumption) (by assumption) | exact Ne.symm (AHeap.ne_of (by assumption) (by assumption)) | exact (AHeap.fresh_set (AHeap.fresh_set (by assumption)).2).1 | exact Ne.symm (AHeap.fresh_set (AHeap.fresh_set (by assumption)).2).1)).trans ?_; first | assumption | exact AHeap.set_same _ _ _)) | (refine (AHeap.set_other _ _ (by first | assumption | exact (AHeap.fresh_set (by assumption)).1 | exact Ne.symm (AHeap.fresh_set (by assumption)).1 | exact AHeap.ne_of (by assumption) (by assumption) | exact Ne.symm (AHeap.ne_of (by assumption) (by assumption)) | exact (AHeap.fresh_set (AHeap.fresh_set (by assumption)).2).1 | exact Ne.symm (AHeap.fresh_set (AHeap.fresh_set (by assumption)).2).1)).trans ?_; first | assumption | exact AHeap.set_same _ _ _ | exact AHeap.get_fresh (by assumption) (by first | assumption | exact AHeap.set_same _ _ _) | (refine (AHeap.set_other _ _ (by first | assumption | exact (AHeap.fresh_set (by assumption)).1 | exact Ne.symm (AHeap.fresh_set (by assumption)).1 | exact AHeap.ne_of (by assumption) (by assumption) | exact Ne.symm (AHeap.ne_of (by assumption) (by assumption)) | exact (AHeap.fresh_set (AHeap.fresh_set (by assumption)).2).1 | exact Ne.symm (AHeap.fresh_set (AHeap.fresh_set (by assumption)).2).1)).trans ?_; first | assumption | exact AHeap.set_same _ _ _))) | (refine (AHeap.set_other _ _ (by first | assumption | exact (AHeap.fresh_set (by assumption)).1 | exact Ne.symm (AHeap.fresh_set (by assumption)).1 | exact AHeap.ne_of (by assumption) (by assumption) | exact Ne.symm (AHeap.ne_of (by assumption) (by assumption)) | exact (AHeap.fresh_set (AHeap.fresh_set (by assumption)).2).1 | exact Ne.symm (AHeap.fresh_set (AHeap.fresh_set (by assumption)).2).1)).trans ?_; first | assumption | exact AHeap.set_same _ _ _ | exact AHeap.get_fresh (by assumption) (by first | assumption | exact AHeap.set_same _ _ _ | exact AHeap.get_fresh (by assumption) (by first | assumption | exact AHeap.set_same _ _ _) | (refine (AHeap.set_other _ _ (by first | assumption | exact (AHeap.fresh_set (by assumption)).1 | exact Ne.symm (AHeap.fresh_set (by assumption)).1 | exact AHeap.ne_of (by assumption) (by assumption) | exact Ne.symm (AHeap.ne_of (by assumption) (by assumption)) | exact (AHeap.fresh_set (AHeap.fresh_set (by assumption)).2).1 | exact Ne.symm (AHeap.fresh_set (AHeap.fresh_set (by assumption)).2).1)).trans ?_; first | assumption | exact AHeap.set_same _ _ _)) | (refine (AHeap.set_other _ _ (by first | assumption | exact (AHeap.fresh_set (by assumption)).1 | exact Ne.symm (AHeap.fresh_set (by assumption)).1 | exact AHeap.ne_of (by assumption) (by assumption) | exact Ne.symm (AHeap.ne_of (by assumption) (by assumption)) | exact (AHeap.fresh_set (AHeap.fresh_set (by assumption)).2).1 | exact Ne.symm (AHeap.fresh_set (AHeap.fresh_set (by assumption)).2).1)).trans ?_; first | assumption | exact AHeap.set_same _ _ _ | exact AHeap.get_fresh (by assumption) (by first | assumption | exact AHeap.set_same _ _ _) | (refine (AHeap.set_other _ _ (by first | assumption | exact (AHeap.fresh_set (by assumption)).1 | exact Ne.symm (AHeap.fresh_set (by assumption)).1 | exact AHeap.ne_of (by assumption) (by assumption) | exact Ne.symm (AHeap.ne_of (by assumption) (by assumption)) | exact (AHeap.fresh_set (AHeap.fresh_set (by assumption)).2).1 | exact Ne.symm (AHeap.fresh_set (AHeap.fresh_set (by assumption)).2).1)).trans ?_; first | assumption | exact AHeap.set_same _ _ _)))) rfl rfl rfl (by rfl) rfl ?_)
    | refine S.skip rfl ?_
    | refine S.skip0 rfl ?_
    | refine S.seq ?_
    | refine S.region ?_
    | refine S.condT rfl ?_
    | refine S.condF rfl ?_
    | refine RRun.skip ?_
    | refine RRun.block ?_
    | refine RRun.inBlock ?_
    | refine RRun.exit rfl ?_)
  refine S.op rfl (R.call rfl rfl (ACalls.mono (new_spec s (by omega) (by omega) _) ?_))
  rintro _ _ ⟨p, hp, rfl, rfl⟩
  have k0 := copied_far s
  generalize hL0 : (⟨s.copied, [], 0, false⟩ : Log) = L0
  have i0 : L0.s.index ≤ far := by rw [← hL0]; exact k0
  have l0 : L0.l = [] := by rw [← hL0]
  repeat' (first
    | refine S.nilK ?_
    | (refine S.op rfl ?_; first
      | refine R.mv rfl ?_
      | refine R.fieldAddr rfl ?_
      | refine R.fieldAddrR rfl ?_
      | refine R.nilCheck rfl ?_
      | refine R.nilCheckR rfl ?_
      | refine R.loadR rfl rfl ?_
      | refine R.load (by decide) rfl (by first | assumption | exact AHeap.set_same _ _ _ | exact AHeap.get_fresh (by assumption) (by first | assumption | exact AHeap.set_same _ _ _ | exact AHeap.get_fresh (by assumption) (by first | assumption | exact AHeap.set_same _ _ _ | exact AHeap.get_fresh (by assumption) (by first | assumption | exact AHeap.set_same _ _ _) | (refine (AHeap.set_other _ _ (by first | assumption | exact (AHeap.fresh_set (by assumption)).1 | exact Ne.symm (AHeap.fresh_set (by assumption)).1 | exact AHeap.ne_of (by assumption) (by assumption) | exact Ne.symm (AHeap.ne_of (by assumption) (by assumption)) | exact (AHeap.fresh_set (AHeap.fresh_set (by assumption)).2).1 | exact Ne.symm (AHeap.fresh_set (AHeap.fresh_set (by assumption)).2).1)).trans ?_; first | assumption | exact AHeap.set_same _ _ _)) | (refine (AHeap.set_other _ _ (by first | assumption | exact (AHeap.fresh_set (by assumption)).1 | exact Ne.symm (AHeap.fresh_set (by assumption)).1 | exact AHeap.ne_of (by assumption) (by assumption) | exact Ne.symm (AHeap.ne_of (by assumption) (by assumption)) | exact (AHeap.fresh_set (AHeap.fresh_set (by assumption)).2).1 | exact Ne.symm (AHeap.fresh_set (AHeap.fresh_set (by assumption)).2).1)).trans ?_; first | assumption | exact AHeap.set_same _ _ _ | exact AHeap.get_fresh (by assumption) (by first | assumption | exact AHeap.set_same _ _ _) | (refine (AHeap.set_other _ _ (by first | assumption | exact (AHeap.fresh_set (by assumption)).1 | exact Ne.symm (AHeap.fresh_set (by assumption)).1 | exact AHeap.ne_of (by assumption) (by assumption) | exact Ne.symm (AHeap.ne_of (by assumption) (by assumption)) | exact (AHeap.fresh_set (AHeap.fresh_set (by assumption)).2).1 | exact Ne.symm (AHeap.fresh_set (AHeap.fresh_set (by assumption)).2).1)).trans ?_; first | assumption | exact AHeap.set_same _ _ _))) | (refine (AHeap.set_other _ _ (by first | assumption | exact (AHeap.fresh_set (by assumption)).1 | exact Ne.symm (AHeap.fresh_set (by assumption)).1 | exact AHeap.ne_of (by assumption) (by assumption) | exact Ne.symm (AHeap.ne_of (by assumption) (by assumption)) | exact (AHeap.fresh_set (AHeap.fresh_set (by assumption)).2).1 | exact Ne.symm (AHeap.fresh_set (AHeap.fresh_set (by assumption)).2).1)).trans ?_; first | assumption | exact AHeap.set_same _ _ _ | exact AHeap.get_fresh (by assumption) (by first | assumption | exact AHeap.set_same _ _ _ | exact AHeap.get_fresh (by assumption) (by first | assumption | exact AHeap.set_same _ _ _) | (refine (AHeap.set_other _ _ (by first | assumption | exact (AHeap.fresh_set (by assumption)).1 | exact Ne.symm (AHeap.fresh_set (by assumption)).1 | exact AHeap.ne_of (by assumption) (by assumption) | exact Ne.symm (AHeap.ne_of (by assumption) (by assumption)) | exact (AHeap.fresh_set (AHeap.fresh_set (by assumption)).2).1 | exact Ne.symm (AHeap.fresh_set (AHeap.fresh_set (by assumption)).2).1)).trans ?_; first | assumption | exact AHeap.set_same _ _ _)) | (refine (AHeap.set_other _ _ (by first | assumption | exact (AHeap.fresh_set (by assumption)).1 | exact Ne.symm (AHeap.fresh_set (by assumption)).1 | exact AHeap.ne_of (by assumption) (by assumption) | exact Ne.symm (AHeap.ne_of (by assumption) (by assumption)) | exact (AHeap.fresh_set (AHeap.fresh_set (by assumption)).2).1 | exact Ne.symm (AHeap.fresh_set (AHeap.fresh_set (by assumption)).2).1)).trans ?_; first | assumption | exact AHeap.set_same _ _ _ | exact AHeap.get_fresh (by assumption) (by first | assumption | exact AHeap.set_same _ _ _) | (refine (AHeap.set_other _ _ (by first | assumption | exact (AHeap.fresh_set (by assumption)).1 | exact Ne.symm (AHeap.fresh_set (by assumption)).1 | exact AHeap.ne_of (by assumption) (by assumption) | exact Ne.symm (AHeap.ne_of (by assumption) (by assumption)) | exact (AHeap.fresh_set (AHeap.fresh_set (by assumption)).2).1 | exact Ne.symm (AHeap.fresh_set (AHeap.fresh_set (by assumption)).2).1)).trans ?_; first | assumption | exact AHeap.set_same _ _ _)))) rfl ?_
      | refine S.addI rfl rfl (by omega) ?_
      | refine S.subI rfl rfl (by omega) ?_
      | refine S.addU rfl rfl ?_
      | refine S.subU rfl rfl ?_
      | refine S.addUc rfl (by decide) ?_
      | refine S.subUc rfl (by decide) ?_
      | refine S.arith rfl rfl rfl ?_
      | refine R.pickT rfl rfl ?_
      | refine R.pickF rfl rfl ?_
      | refine R.len rfl ?_
      | refine R.lenA rfl ?_
      | refine R.lenStr rfl ?_
      | refine S.convIU rfl (by omega) ?_
      | refine S.convUI rfl (by omega) ?_
      | refine R.convInt rfl ?_
      | refine R.not rfl ?_
      | refine R.eqPtrNil rfl rfl ?_
      | refine R.extract rfl rfl ?_
      | refine R.field rfl rfl ?_
      | refine R.alloc rfl (fun b hb => ?_)
      | refine R.box rfl rfl rfl (fun b hb => ?_)
      | refine R.build rfl rfl ?_
      | refine R.buildSl rfl rfl rfl (by decide) ?_
      | refine R.toStr rfl ?_
      | refine R.convStr rfl ?_
      | refine R.minmax rfl ?_
      | refine R.makeFunc rfl rfl ?_
      | (first | refine S.lss rfl rfl (fun hlt => ?_) (fun hlt => by exfalso; omega) | refine S.lss rfl rfl (fun hlt => by exfalso; omega) (fun hlt => ?_) | refine S.lss rfl rfl (fun hlt => ?_) (fun hlt => ?_))
      | (first | refine S.gtr rfl rfl (fun hlt => ?_) (fun hlt => by exfalso; omega) | refine S.gtr rfl rfl (fun hlt => by exfalso; omega) (fun hlt => ?_) | refine S.gtr rfl rfl (fun hlt => ?_) (fun hlt => ?_))
      | (first | refine S.leq rfl rfl (fun hlt => ?_) (fun hlt => by exfalso; omega) | refine S.leq rfl rfl (fun hlt => by exfalso; omega) (fun hlt => ?_) | refine S.leq rfl rfl (fun hlt => ?_) (fun hlt => ?_))
      | (first | refine S.geq rfl rfl (fun hlt => ?_) (fun hlt => by exfalso; omega) | refine S.geq rfl rfl (fun hlt => by exfalso; omega) (fun hlt => ?_) | refine S.geq rfl rfl (fun hlt => ?_) (fun hlt => ?_))
      | (first | refine S.eqInt rfl rfl (fun hlt => ?_) (fun hlt => by exfalso; omega) | refine S.eqInt rfl rfl (fun hlt => by exfalso; omega) (fun hlt => ?_) | refine S.eqInt rfl rfl (fun hlt => ?_) (fun hlt => ?_)))
    | (refine S.op0 rfl ?_; first | refine S.store rfl rfl (by first | assumption | exact AHeap.set_same _ _ _ | exact AHeap.get_fresh (by assumption) (by first | assumption | exact AHeap.set_same _ _ _ | exact AHeap.get_fresh (by assumption) (by first | assumption | exact AHeap.set_same _ _ _ | exact AHeap.get_fresh (by assumption) (by first | assumption | exact AHeap.set_same _ _ _) | (refine (AHeap.set_other _ _ (by first | assumption | exact (AHeap.fresh_set (by assumption)).1 | exact Ne.symm (AHeap.fresh_set (by assumption)).1 | exact AHeap.ne_of (by assumption) (by assumption) | exact Ne.symm (AHeap.ne_of (by assumption) (by assumption)) | exact (AHeap.fresh_set (AHeap.fresh_set (by assumption)).2).1 | exact Ne.symm (AHeap.fresh_set (AHeap.fresh_set (by assumption)).2).1)).trans ?_; first | assumption | exact AHeap.set_same _ _ _)) | (refine (AHeap.set_other _ _ (by first | assumption | exact (AHeap.fresh_set (by assumption)).1 | exact Ne.symm (AHeap.fresh_set (by assumption)).1 | exact AHeap.ne_of (by assumption) (by assumption) | exact Ne.symm (AHeap.ne_of (by assumption) (by assumption)) | exact (AHeap.fresh_set (AHeap.fresh_set (by assumption)).2).1 | exact Ne.symm (AHeap.fresh_set (AHeap.fresh_set (by assumption)).2).1)).trans ?_; first | assumption | exact AHeap.set_same _ _ _ | exact AHeap.get_fresh (by assumption) (by first | assumption | exact AHeap.set_same _ _ _) | (refine (AHeap.set_other _ _ (by first | assumption | exact (AHeap.fresh_set (by assumption)).1 | exact Ne.symm (AHeap.fresh_set (by assumption)).1 | exact AHeap.ne_of (by assumption) (by assumption) | exact Ne.symm (AHeap.ne_of (by assumption) (by assumption)) | exact (AHeap.fresh_set (AHeap.fresh_set (by assumption)).2).1 | exact Ne.symm (AHeap.fresh_set (AHeap.fresh_set (by assumption)).2).1)).trans ?_; first | assumption | exact AHeap.set_same _ _ _))) | (refine (AHeap.set_other _ _ (by first | assumption | exact (AHeap.fresh_set (by assumption)).1 | exact Ne.symm (AHeap.fresh_set (by assumption)).1 | exact AHeap.ne_of (by assumption) (by assumption) | exact Ne.symm (AHeap.ne_of (by assumption) (by assumption)) | exact (AHeap.fresh_set (AHeap.fresh_set (by assumption)).2).1 | exact Ne.symm (AHeap.fresh_set (AHeap.fresh_set (by assumption)).2).1)).trans ?_; first | assumption | exact AHeap.set_same _ _ _ | exact AHeap.get_fresh (by assumption) (by first | assumption | exact AHeap.set_same _ _ _ | exact AHeap.get_fresh (by assumption) (by first | assumption | exact AHeap.set_same _ _ _) | (refine (AHeap.set_other _ _ (by first | assumption | exact (AHeap.fresh_set (by assumption)).1 | exact Ne.symm (AHeap.fresh_set (by assumption)).1 | exact AHeap.ne_of (by assumption) (by assumption) | exact Ne.symm (AHeap.ne_of (by assumption) (by assumption)) | exact (AHeap.fresh_set (AHeap.fresh_set (by assumption)).2).1 | exact Ne.symm (AHeap.fresh_set (AHeap.fresh_set (by assumption)).2).1)).trans ?_; first | assumption | exact AHeap.set_same _ _ _)) | (refine (AHeap.set_other _ _ (by first | assumption | exact (AHeap.fresh_set (by assumption)).1 | exact Ne.symm (AHeap.fresh_set (by assumption)).1 | exact AHeap.ne_of (by assumption) (by assumption) | exact Ne.symm (AHeap.ne_of (by assumption) (by assumption)) | exact (AHeap.fresh_set (AHeap.fresh_set (by assumption)).2).1 | exact Ne.symm (AHeap.fresh_set (AHeap.fresh_set (by assumption)).2).1)).trans ?_; first | assumption | exact AHeap.set_same _ _ _ | exact AHeap.get_fresh (by assumption) (by first | assumption | exact AHeap.set_same _ _ _) | (refine (AHeap.set_other _ _ (by first | assumption | exact (AHeap.fresh_set (by assumption)).1 | exact Ne.symm (AHeap.fresh_set (by assumption)).1 | exact AHeap.ne_of (by assumption) (by assumption) | exact Ne.symm (AHeap.ne_of (by assumption) (by assumption)) | exact (AHeap.fresh_set (AHeap.fresh_set (by assumption)).2).1 | exact Ne.symm (AHeap.fresh_set (AHeap.fresh_set (by assumption)).2).1)).trans ?_; first | assumption | exact AHeap.set_same _ _ _)))) rfl rfl rfl (by rfl) rfl ?_)
    | refine S.skip rfl ?_
    | refine S.skip0 rfl ?_
    | refine S.seq ?_
    | refine S.region ?_
    | refine S.condT rfl ?_
    | refine S.condF rfl ?_
    | refine RRun.skip ?_
    | refine RRun.block ?_
    | refine RRun.inBlock ?_
    | refine RRun.exit rfl ?_)
  refine S.op rfl (R.call rfl rfl (ACalls.mono (append_spec L0 l (fun y hy => Nat.le_trans (hs2.2 y hy) (by decide)) i0 (by rw [l0]; decide) (by omega) p _ (AHeap.set_same _ _ _)) ?_))
  rintro _ _ ⟨rfl, rfl⟩
  have a1 := append_s L0 l
  have a2 := append_len L0 l
  have a3 := append_mem L0 l
  have a4 := chain L0 l0 i0 l
  generalize (L0.append l).1 = L1 at a1 a2 a3 a4
  generalize (L0.append l).2 = n1
  rw [l0] at a2 a3
  have i1 : L1.s.index ≤ far := by rw [a1]; exact i0
  have l1 : L1.l.length ≤ 12 := by simp at a2; omega
  have m1 : ∀ y ∈ L1.l, y.data.length ≤ 140737488355328 := fun y hy => Nat.le_trans (hs2.2 y ((a3 y hy).resolve_left List.not_mem_nil)) (by decide)
  have e1 : ∀ H : AHeap, H p = some (.box L1.cells) → ACalls Try.prog 15 [ptr p, u64 (L1.s.index + 1), i64 100] H (fun x h' => x = entries L1.l ∧ h' = H) := fun H hH => by
    have := entries_spec L1 m1 i1 (by omega) (L1.s.index + 1) 100 (by decide) p H hH
    rwa [at_all L1 i1 (by omega)] at this
  repeat' (first
    | refine S.nilK ?_
    | (refine S.op rfl ?_; first
      | refine R.callQ (by decide) rfl (first_spec L1 p _ (AHeap.set_same _ _ _)) ?_
      | refine R.callQ (by decide) rfl (e1 _ (AHeap.set_same _ _ _)) ?_
      | refine R.mv rfl ?_
      | refine R.fieldAddr rfl ?_
      | refine R.fieldAddrR rfl ?_
      | refine R.nilCheck rfl ?_
      | refine R.nilCheckR rfl ?_
      | refine R.loadR rfl rfl ?_
      | refine R.load (by decide) rfl (by first | assumption | exact AHeap.set_same _ _ _ | exact AHeap.get_fresh (by assumption) (by first | assumption | exact AHeap.set_same _ _ _ | exact AHeap.get_fresh (by assumption) (by first | assumption | exact AHeap.set_same _ _ _ | exact AHeap.get_fresh (by assumption) (by first | assumption | exact AHeap.set_same _ _ _) | (refine (AHeap.set_other _ _ (by first | assumption | exact (AHeap.fresh_set (by assumption)).1 | exact Ne.symm (AHeap.fresh_set (by assumption)).1 | exact AHeap.ne_of (by assumption) (by assumption) | exact Ne.symm (AHeap.ne_of (by assumption) (by assumption)) | exact (AHeap.fresh_set (AHeap.fresh_set (by assumption)).2).1 | exact Ne.symm (AHeap.fresh_set (AHeap.fresh_set (by assumption)).2).1)).trans ?_; first | assumption | exact AHeap.set_same _ _ _)) | (refine (AHeap.set_other _ _ (by first | assumption | exact (AHeap.fresh_set (by assumption)).1 | exact Ne.symm (AHeap.fresh_set (by assumption)).1 | exact AHeap.ne_of (by assumption) (by assumption) | exact Ne.symm (AHeap.ne_of (by assumption) (by assumption)) | exact (AHeap.fresh_set (AHeap.fresh_set (by assumption)).2).1 | exact Ne.symm (AHeap.fresh_set (AHeap.fresh_set (by assumption)).2).1)).trans ?_; first | assumption | exact AHeap.set_same _ _ _ | exact AHeap.get_fresh (by assumption) (by first | assumption | exact AHeap.set_same _ _ _) | (refine (AHeap.set_other _ _ (by first | assumption | exact (AHeap.fresh_set (by assumption)).1 | exact Ne.symm (AHeap.fresh_set (by assumption)).1 | exact AHeap.ne_of (by assumption) (by assumption) | exact Ne.symm (AHeap.ne_of (by assumption) (by assumption)) | exact (AHeap.fresh_set (AHeap.fresh_set (by assumption)).2).1 | exact Ne.symm (AHeap.fresh_set (AHeap.fresh_set (by assumption)).2).1)).trans ?_; first | assumption | exact AHeap.set_same _ _ _))) | (refine (AHeap.set_other _ _ (by first | assumption | exact (AHeap.fresh_set (by assumption)).1 | exact Ne.symm (AHeap.fresh_set (by assumption)).1 | exact AHeap.ne_of (by assumption) (by assumption) | exact Ne.symm (AHeap.ne_of (by assumption) (by assumption)) | exact (AHeap.fresh_set (AHeap.fresh_set (by assumption)).2).1 | exact Ne.symm (AHeap.fresh_set (AHeap.fresh_set (by assumption)).2).1)).trans ?_; first | assumption | exact AHeap.set_same _ _ _ | exact AHeap.get_fresh (by assumption) (by first | assumption | exact AHeap.set_same _ _ _ | exact AHeap.get_fresh (by assumption) (by first | assumption | exact AHeap.set_same _ _ _) | (refine (AHeap.set_other _ _ (by first | assumption | exact (AHeap.fresh_set (by assumption)).1 | exact Ne.symm (AHeap.fresh_set (by assumption)).1 | exact AHeap.ne_of (by assumption) (by assumption) | exact Ne.symm (AHeap.ne_of (by assumption) (by assumption)) | exact (AHeap.fresh_set (AHeap.fresh_set (by assumption)).2).1 | exact Ne.symm (AHeap.fresh_set (AHeap.fresh_set (by assumption)).2).1)).trans ?_; first | assumption | exact AHeap.set_same _ _ _)) | (refine (AHeap.set_other _ _ (by first | assumption | exact (AHeap.fresh_set (by assumption)).1 | exact Ne.symm (AHeap.fresh_set (by assumption)).1 | exact AHeap.ne_of (by assumption) (by assumption) | exact Ne.symm (AHeap.ne_of (by assumption) (by assumption)) | exact (AHeap.fresh_set (AHeap.fresh_set (by assumption)).2).1 | exact Ne.symm (AHeap.fresh_set (AHeap.fresh_set (by assumption)).2).1)).trans ?_; first | assumption | exact AHeap.set_same _ _ _ | exact AHeap.get_fresh (by assumption) (by first | assumption | exact AHeap.set_same _ _ _) | (refine (AHeap.set_other _ _ (by first | assumption | exact (AHeap.fresh_set (by assumption)).1 | exact Ne.symm (AHeap.fresh_set (by assumption)).1 | exact AHeap.ne_of (by assumption) (by assumption) | exact Ne.symm (AHeap.ne_of (by assumption) (by assumption)) | exact (AHeap.fresh_set (AHeap.fresh_set (by assumption)).2).1 | exact Ne.symm (AHeap.fresh_set (AHeap.fresh_set (by assumption)).2).1)).trans ?_; first | assumption | exact AHeap.set_same _ _ _)))) rfl ?_
      | refine S.addI rfl rfl (by omega) ?_
      | refine S.subI rfl rfl (by omega) ?_
      | refine S.addU rfl rfl ?_
      | refine S.subU rfl rfl ?_
      | refine S.addUc rfl (by decide) ?_
      | refine S.subUc rfl (by decide) ?_
      | refine S.arith rfl rfl rfl ?_
      | refine R.pickT rfl rfl ?_
      | refine R.pickF rfl rfl ?_
      | refine R.len rfl ?_
      | refine R.lenA rfl ?_
      | refine R.lenStr rfl ?_
      | refine S.convIU rfl (by omega) ?_
      | refine S.convUI rfl (by omega) ?_
      | refine R.convInt rfl ?_
      | refine R.not rfl ?_
      | refine R.eqPtrNil rfl rfl ?_
      | refine R.extract rfl rfl ?_
      | refine R.field rfl rfl ?_
      | refine R.alloc rfl (fun b hb => ?_)
      | refine R.box rfl rfl rfl (fun b hb => ?_)
      | refine R.build rfl rfl ?_
      | refine R.buildSl rfl rfl rfl (by decide) ?_
      | refine R.toStr rfl ?_
      | refine R.convStr rfl ?_
      | refine R.minmax rfl ?_
      | refine R.makeFunc rfl rfl ?_
      | (first | refine S.lss rfl rfl (fun hlt => ?_) (fun hlt => by exfalso; omega) | refine S.lss rfl rfl (fun hlt => by exfalso; omega) (fun hlt => ?_) | refine S.lss rfl rfl (fun hlt => ?_) (fun hlt => ?_))
      | (first | refine S.gtr rfl rfl (fun hlt => ?_) (fun hlt => by exfalso; omega) | refine S.gtr rfl rfl (fun hlt => by exfalso; omega) (fun hlt => ?_) | refine S.gtr rfl rfl (fun hlt => ?_) (fun hlt => ?_))
      | (first | refine S.leq rfl rfl (fun hlt => ?_) (fun hlt => by exfalso; omega) | refine S.leq rfl rfl (fun hlt => by exfalso; omega) (fun hlt => ?_) | refine S.leq rfl rfl (fun hlt => ?_) (fun hlt => ?_))
      | (first | refine S.geq rfl rfl (fun hlt => ?_) (fun hlt => by exfalso; omega) | refine S.geq rfl rfl (fun hlt => by exfalso; omega) (fun hlt => ?_) | refine S.geq rfl rfl (fun hlt => ?_) (fun hlt => ?_))
      | (first | refine S.eqInt rfl rfl (fun hlt => ?_) (fun hlt => by exfalso; omega) | refine S.eqInt rfl rfl (fun hlt => by exfalso; omega) (fun hlt => ?_) | refine S.eqInt rfl rfl (fun hlt => ?_) (fun hlt => ?_)))
    | (refine S.op0 rfl ?_; first | refine S.store rfl rfl (by first | assumption | exact AHeap.set_same _ _ _ | exact AHeap.get_fresh (by assumption) (by first | assumption | exact AHeap.set_same _ _ _ | exact AHeap.get_fresh (by assumption) (by first | assumption | exact AHeap.set_same _ _ _ | exact AHeap.get_fresh (by assumption) (by first | assumption | exact AHeap.set_same _ _ _) | (refine (AHeap.set_other _ _ (by first | assumption | exact (AHeap.fresh_set (by assumption)).1 | exact Ne.symm (AHeap.fresh_set (by assumption)).1 | exact AHeap.ne_of (by assumption) (by assumption) | exact Ne.symm (AHeap.ne_of (by assumption) (by assumption)) | exact (AHeap.fresh_set (AHeap.fresh_set (by assumption)).2).1 | exact Ne.symm (AHeap.fresh_set (AHeap.fresh_set (by assumption)).2).1)).trans ?_; first | assumption | exact AHeap.set_same _ _ _)) | (refine (AHeap.set_other _ _ (by first | assumption | exact (AHeap.fresh_set (by assumption)).1 | exact Ne.symm (AHeap.fresh_set (by assumption)).1 | exact AHeap.ne_of (by assumption) (by assumption) | exact Ne.symm (AHeap.ne_of (by assumption) (by assumption)) | exact (AHeap.fresh_set (AHeap.fresh_set (by assumption)).2).1 | exact Ne.symm (AHeap.fresh_set (AHeap.fresh_set (by assumption)).2).1)).trans ?_; first | assumption | exact AHeap.set_same _ _ _ | exact AHeap.get_fresh (by assumption) (by first | assumption | exact AHeap.set_same _ _ _) | (refine (AHeap.set_other _ _ (by first | assumption | exact (AHeap.fresh_set (by assumption)).1 | exact Ne.symm (AHeap.fresh_set (by assumption)).1 | exact AHeap.ne_of (by assumption) (by assumption) | exact Ne.symm (AHeap.ne_of (by assumption) (by assumption)) | exact (AHeap.fresh_set (AHeap.fresh_set (by assumption)).2).1 | exact Ne.symm (AHeap.fresh_set (AHeap.fresh_set (by assumption)).2).1)).trans ?_; first | assumption | exact AHeap.set_same _ _ _))) | (refine (AHeap.set_other _ _ (by first | assumption | exact (AHeap.fresh_set (by assumption)).1 | exact Ne.symm (AHeap.fresh_set (by assumption)).1 | exact AHeap.ne_of (by assumption) (by assumption) | exact Ne.symm (AHeap.ne_of (by assumption) (by assumption)) | exact (AHeap.fresh_set (AHeap.fresh_set (by assumption)).2).1 | exact Ne.symm (AHeap.fresh_set (AHeap.fresh_set (by assumption)).2).1)).trans ?_; first | assumption | exact AHeap.set_same _ _ _ | exact AHeap.get_fresh (by assumption) (by first | assumption | exact AHeap.set_same _ _ _ | exact AHeap.get_fresh (by assumption) (by first | assumption | exact AHeap.set_same _ _ _) | (refine (AHeap.set_other _ _ (by first | assumption | exact (AHeap.fresh_set (by assumption)).1 | exact Ne.symm (AHeap.fresh_set (by assumption)).1 | exact AHeap.ne_of (by assumption) (by assumption) | exact Ne.symm (AHeap.ne_of (by assumption) (by assumption)) | exact (AHeap.fresh_set (AHeap.fresh_set (by assumption)).2).1 | exact Ne.symm (AHeap.fresh_set (AHeap.fresh_set (by assumption)).2).1)).trans ?_; first | assumption | exact AHeap.set_same _ _ _)) | (refine (AHeap.set_other _ _ (by first | assumption | exact (AHeap.fresh_set (by assumption)).1 | exact Ne.symm (AHeap.fresh_set (by assumption)).1 | exact AHeap.ne_of (by assumption) (by assumption) | exact Ne.symm (AHeap.ne_of (by assumption) (by assumption)) | exact (AHeap.fresh_set (AHeap.fresh_set (by assumption)).2).1 | exact Ne.symm (AHeap.fresh_set (AHeap.fresh_set (by assumption)).2).1)).trans ?_; first | assumption | exact AHeap.set_same _ _ _ | exact AHeap.get_fresh (by assumption) (by first | assumption | exact AHeap.set_same _ _ _) | (refine (AHeap.set_other _ _ (by first | assumption | exact (AHeap.fresh_set (by assumption)).1 | exact Ne.symm (AHeap.fresh_set (by assumption)).1 | exact AHeap.ne_of (by assumption) (by assumption) | exact Ne.symm (AHeap.ne_of (by assumption) (by assumption)) | exact (AHeap.fresh_set (AHeap.fresh_set (by assumption)).2).1 | exact Ne.symm (AHeap.fresh_set (AHeap.fresh_set (by assumption)).2).1)).trans ?_; first | assumption | exact AHeap.set_same _ _ _)))) rfl rfl rfl (by rfl) rfl ?_)
    | refine S.skip rfl ?_
    | refine S.skip0 rfl ?_
    | refine S.seq ?_
    | refine S.region ?_
    | refine S.condT rfl ?_
    | refine S.condF rfl ?_
    | refine RRun.skip ?_
    | refine RRun.block ?_
    | refine RRun.inBlock ?_
    | refine RRun.exit rfl ?_)
  refine S.op rfl (R.call rfl rfl (ACalls.mono (append_spec L1 (x :: r) (fun y hy => Nat.le_trans (hs3.2 y hy) (by decide)) i1 (by omega) (by omega) p _ (AHeap.set_same _ _ _)) ?_))
  rintro _ _ ⟨rfl, rfl⟩
  rcases append_cases L1 (x :: r) with ⟨g1, g2⟩ | ⟨x', r', g1, g2, g3, g4, g5, g6⟩
  · have g3 : (L1.append (x :: r)).2 = 80 := g2.resolve_right (fun e => by cases e.1)
    rw [g1, g3]
    repeat' (first
      | refine S.nilK ?_
      | (refine S.op rfl ?_; first
        | refine R.eqInt rfl rfl ?_
        | refine R.callQ (by decide) rfl (first_spec L1 p _ (AHeap.set_same _ _ _)) ?_
        | refine R.callQ (by decide) rfl (e1 _ (AHeap.set_same _ _ _)) ?_
        | refine R.callQ (by decide) rfl (same_spec L1.l (by omega) _) ?_
        | refine R.mv rfl ?_
        | refine R.fieldAddr rfl ?_
        | refine R.fieldAddrR rfl ?_
        | refine R.nilCheck rfl ?_
        | refine R.nilCheckR rfl ?_
        | refine R.loadR rfl rfl ?_
        | refine R.load (by decide) rfl (by first | assumption | exact AHeap.set_same _ _ _ | exact AHeap.get_fresh (by assumption) (by first | assumption | exact AHeap.set_same _ _ _ | exact AHeap.get_fresh (by assumption) (by first | assumption | exact AHeap.set_same _ _ _ | exact AHeap.get_fresh (by assumption) (by first | assumption | exact AHeap.set_same _ _ _) | (refine (AHeap.set_other _ _ (by first | assumption | exact (AHeap.fresh_set (by assumption)).1 | exact Ne.symm (AHeap.fresh_set (by assumption)).1 | exact AHeap.ne_of (by assumption) (by assumption) | exact Ne.symm (AHeap.ne_of (by assumption) (by assumption)) | exact (AHeap.fresh_set (AHeap.fresh_set (by assumption)).2).1 | exact Ne.symm (AHeap.fresh_set (AHeap.fresh_set (by assumption)).2).1)).trans ?_; first | assumption | exact AHeap.set_same _ _ _)) | (refine (AHeap.set_other _ _ (by first | assumption | exact (AHeap.fresh_set (by assumption)).1 | exact Ne.symm (AHeap.fresh_set (by assumption)).1 | exact AHeap.ne_of (by assumption) (by assumption) | exact Ne.symm (AHeap.ne_of (by assumption) (by assumption)) | exact (AHeap.fresh_set (AHeap.fresh_set (by assumption)).2).1 | exact Ne.symm (AHeap.fresh_set (AHeap.fresh_set (by assumption)).2).1)).trans ?_; first | assumption | exact AHeap.set_same _ _ _ | exact AHeap.get_fresh (by assumption) (by first | assumption | exact AHeap.set_same _ _ _) | (refine (AHeap.set_other _ _ (by first | assumption | exact (AHeap.fresh_set (by assumption)).1 | exact Ne.symm (AHeap.fresh_set (by assumption)).1 | exact AHeap.ne_of (by assumption) (by assumption) | exact Ne.symm (AHeap.ne_of (by assumption) (by assumption)) | exact (AHeap.fresh_set (AHeap.fresh_set (by assumption)).2).1 | exact Ne.symm (AHeap.fresh_set (AHeap.fresh_set (by assumption)).2).1)).trans ?_; first | assumption | exact AHeap.set_same _ _ _))) | (refine (AHeap.set_other _ _ (by first | assumption | exact (AHeap.fresh_set (by assumption)).1 | exact Ne.symm (AHeap.fresh_set (by assumption)).1 | exact AHeap.ne_of (by assumption) (by assumption) | exact Ne.symm (AHeap.ne_of (by assumption) (by assumption)) | exact (AHeap.fresh_set (AHeap.fresh_set (by assumption)).2).1 | exact Ne.symm (AHeap.fresh_set (AHeap.fresh_set (by assumption)).2).1)).trans ?_; first | assumption | exact AHeap.set_same _ _ _ | exact AHeap.get_fresh (by assumption) (by first | assumption | exact AHeap.set_same _ _ _ | exact AHeap.get_fresh (by assumption) (by first | assumption | exact AHeap.set_same _ _ _) | (refine (AHeap.set_other _ _ (by first | assumption | exact (AHeap.fresh_set (by assumption)).1 | exact Ne.symm (AHeap.fresh_set (by assumption)).1 | exact AHeap.ne_of (by assumption) (by assumption) | exact Ne.symm (AHeap.ne_of (by assumption) (by assumption)) | exact (AHeap.fresh_set (AHeap.fresh_set (by assumption)).2).1 | exact Ne.symm (AHeap.fresh_set (AHeap.fresh_set (by assumption)).2).1)).trans ?_; first | assumption | exact AHeap.set_same _ _ _)) | (refine (AHeap.set_other _ _ (by first | assumption | exact (AHeap.fresh_set (by assumption)).1 | exact Ne.symm (AHeap.fresh_set (by assumption)).1 | exact AHeap.ne_of (by assumption) (by assumption) | exact Ne.symm (AHeap.ne_of (by assumption) (by assumption)) | exact (AHeap.fresh_set (AHeap.fresh_set (by assumption)).2).1 | exact Ne.symm (AHeap.fresh_set (AHeap.fresh_set (by assumption)).2).1)).trans ?_; first | assumption | exact AHeap.set_same _ _ _ | exact AHeap.get_fresh (by assumption) (by first | assumption | exact AHeap.set_same _ _ _) | (refine (AHeap.set_other _ _ (by first | assumption | exact (AHeap.fresh_set (by assumption)).1 | exact Ne.symm (AHeap.fresh_set (by assumption)).1 | exact AHeap.ne_of (by assumption) (by assumption) | exact Ne.symm (AHeap.ne_of (by assumption) (by assumption)) | exact (AHeap.fresh_set (AHeap.fresh_set (by assumption)).2).1 | exact Ne.symm (AHeap.fresh_set (AHeap.fresh_set (by assumption)).2).1)).trans ?_; first | assumption | exact AHeap.set_same _ _ _)))) rfl ?_
        | refine S.addI rfl rfl (by omega) ?_
        | refine S.subI rfl rfl (by omega) ?_
        | refine S.addU rfl rfl ?_
        | refine S.subU rfl rfl ?_
        | refine S.addUc rfl (by decide) ?_
        | refine S.subUc rfl (by decide) ?_
        | refine S.arith rfl rfl rfl ?_
        | refine R.pickT rfl rfl ?_
        | refine R.pickF rfl rfl ?_
        | refine R.len rfl ?_
        | refine R.lenA rfl ?_
        | refine R.lenStr rfl ?_
        | refine S.convIU rfl (by omega) ?_
        | refine S.convUI rfl (by omega) ?_
        | refine R.convInt rfl ?_
        | refine R.not rfl ?_
        | refine R.eqPtrNil rfl rfl ?_
        | refine R.extract rfl rfl ?_
        | refine R.field rfl rfl ?_
        | refine R.alloc rfl (fun b hb => ?_)
        | refine R.box rfl rfl rfl (fun b hb => ?_)
        | refine R.build rfl rfl ?_
        | refine R.buildSl rfl rfl rfl (by decide) ?_
        | refine R.toStr rfl ?_
        | refine R.convStr rfl ?_
        | refine R.minmax rfl ?_
        | refine R.makeFunc rfl rfl ?_
        | (first | refine S.lss rfl rfl (fun hlt => ?_) (fun hlt => by exfalso; omega) | refine S.lss rfl rfl (fun hlt => by exfalso; omega) (fun hlt => ?_) | refine S.lss rfl rfl (fun hlt => ?_) (fun hlt => ?_))
        | (first | refine S.gtr rfl rfl (fun hlt => ?_) (fun hlt => by exfalso; omega) | refine S.gtr rfl rfl (fun hlt => by exfalso; omega) (fun hlt => ?_) | refine S.gtr rfl rfl (fun hlt => ?_) (fun hlt => ?_))
        | (first | refine S.leq rfl rfl (fun hlt => ?_) (fun hlt => by exfalso; omega) | refine S.leq rfl rfl (fun hlt => by exfalso; omega) (fun hlt => ?_) | refine S.leq rfl rfl (fun hlt => ?_) (fun hlt => ?_))
        | (first | refine S.geq rfl rfl (fun hlt => ?_) (fun hlt => by exfalso; omega) | refine S.geq rfl rfl (fun hlt => by exfalso; omega) (fun hlt => ?_) | refine S.geq rfl rfl (fun hlt => ?_) (fun hlt => ?_))
        | (first | refine S.eqInt rfl rfl (fun hlt => ?_) (fun hlt => by exfalso; omega) | refine S.eqInt rfl rfl (fun hlt => by exfalso; omega) (fun hlt => ?_) | refine S.eqInt rfl rfl (fun hlt => ?_) (fun hlt => ?_)))
      | (refine S.op0 rfl ?_; first | refine S.store rfl rfl (by first | assumption | exact AHeap.set_same _ _ _ | exact AHeap.get_fresh (by assumption) (by first | assumption | exact AHeap.set_same _ _ _ | exact AHeap.get_fresh (by assumption) (by first | assumption | exact AHeap.set_same _ _ _ | exact AHeap.get_fresh (by assumption) (by first | assumption | exact AHeap.set_same _ _ _) | (refine (AHeap.set_other _ _ (by first | assumption | exact (AHeap.fresh_set (by assumption)).1 | exact Ne.symm (AHeap.fresh_set (by assumption)).1 | exact AHeap.ne_of (by assumption) (by assumption) | exact Ne.symm (AHeap.ne_of (by assumption) (by assumption)) | exact (AHeap.fresh_set (AHeap.fresh_set (by assumption)).2).1 | exact Ne.symm (AHeap.fresh_set (AHeap.fresh_set (by assumption)).2).1)).trans ?_; first | assumption | exact AHeap.set_same _ _ _)) | (refine (AHeap.set_other _ _ (by first | assumption | exact (AHeap.fresh_set (by assumption)).1 | exact Ne.symm (AHeap.fresh_set (by assumption)).1 | exact AHeap.ne_of (by assumption) (by assumption) | exact Ne.symm (AHeap.ne_of (by assumption) (by assumption)) | exact (AHeap.fresh_set (AHeap.fresh_set (by assumption)).2).1 | exact Ne.symm (AHeap.fresh_set (AHeap.fresh_set (by assumption)).2).1)).trans ?_; first | assumption | exact AHeap.set_same _ _ _ | exact AHeap.get_fresh (by assumption) (by first | assumption | exact AHeap.set_same _ _ _) | (refine (AHeap.set_other _ _ (by first | assumption | exact (AHeap.fresh_set (by assumption)).1 | exact Ne.symm (AHeap.fresh_set (by assumption)).1 | exact AHeap.ne_of (by assumption) (by assumption) | exact Ne.symm (AHeap.ne_of (by assumption) (by assumption)) | exact (AHeap.fresh_set (AHeap.fresh_set (by assumption)).2).1 | exact Ne.symm (AHeap.fresh_set (AHeap.fresh_set (by assumption)).2).1)).trans ?_; first | assumption | exact AHeap.set_same _ _ _))) | (refine (AHeap.set_other _ _ (by first | assumption | exact (AHeap.fresh_set (by assumption)).1 | exact Ne.symm (AHeap.fresh_set (by assumption)).1 | exact AHeap.ne_of (by assumption) (by assumption) | exact Ne.symm (AHeap.ne_of (by assumption) (by assumption)) | exact (AHeap.fresh_set (AHeap.fresh_set (by assumption)).2).1 | exact Ne.symm (AHeap.fresh_set (AHeap.fresh_set (by assumption)).2).1)).trans ?_; first | assumption | exact AHeap.set_same _ _ _ | exact AHeap.get_fresh (by assumption) (by first | assumption | exact AHeap.set_same _ _ _ | exact AHeap.get_fresh (by assumption) (by first | assumption | exact AHeap.set_same _ _ _) | (refine (AHeap.set_other _ _ (by first | assumption | exact (AHeap.fresh_set (by assumption)).1 | exact Ne.symm (AHeap.fresh_set (by assumption)).1 | exact AHeap.ne_of (by assumption) (by assumption) | exact Ne.symm (AHeap.ne_of (by assumption) (by assumption)) | exact (AHeap.fresh_set (AHeap.fresh_set (by assumption)).2).1 | exact Ne.symm (AHeap.fresh_set (AHeap.fresh_set (by assumption)).2).1)).trans ?_; first | assumption | exact AHeap.set_same _ _ _)) | (refine (AHeap.set_other _ _ (by first | assumption | exact (AHeap.fresh_set (by assumption)).1 | exact Ne.symm (AHeap.fresh_set (by assumption)).1 | exact AHeap.ne_of (by assumption) (by assumption) | exact Ne.symm (AHeap.ne_of (by assumption) (by assumption)) | exact (AHeap.fresh_set (AHeap.fresh_set (by assumption)).2).1 | exact Ne.symm (AHeap.fresh_set (AHeap.fresh_set (by assumption)).2).1)).trans ?_; first | assumption | exact AHeap.set_same _ _ _ | exact AHeap.get_fresh (by assumption) (by first | assumption | exact AHeap.set_same _ _ _) | (refine (AHeap.set_other _ _ (by first | assumption | exact (AHeap.fresh_set (by assumption)).1 | exact Ne.symm (AHeap.fresh_set (by assumption)).1 | exact AHeap.ne_of (by assumption) (by assumption) | exact Ne.symm (AHeap.ne_of (by assumption) (by assumption)) | exact (AHeap.fresh_set (AHeap.fresh_set (by assumption)).2).1 | exact Ne.symm (AHeap.fresh_set (AHeap.fresh_set (by assumption)).2).1)).trans ?_; first | assumption | exact AHeap.set_same _ _ _)))) rfl rfl rfl (by rfl) rfl ?_)
      | refine S.skip rfl ?_
      | refine S.skip0 rfl ?_
      | refine S.seq ?_
      | refine S.region ?_
      | refine S.condT rfl ?_
      | refine S.condF rfl ?_
      | refine RRun.skip ?_
      | refine RRun.block ?_
      | refine RRun.inBlock ?_
      | refine RRun.exit rfl ?_)
    apply S.ret rr3
    case hx => repeat (first | exact ResAt.nil | apply ResAt.tmp rfl | apply ResAt.cellA rfl (by first | assumption | exact AHeap.set_same _ _ _ | exact AHeap.get_fresh (by assumption) (by first | assumption | exact AHeap.set_same _ _ _ | exact AHeap.get_fresh (by assumption) (by first | assumption | exact AHeap.set_same _ _ _ | exact AHeap.get_fresh (by assumption) (by first | assumption | exact AHeap.set_same _ _ _) | (refine (AHeap.set_other _ _ (by first | assumption | exact (AHeap.fresh_set (by assumption)).1 | exact Ne.symm (AHeap.fresh_set (by assumption)).1 | exact AHeap.ne_of (by assumption) (by assumption) | exact Ne.symm (AHeap.ne_of (by assumption) (by assumption)) | exact (AHeap.fresh_set (AHeap.fresh_set (by assumption)).2).1 | exact Ne.symm (AHeap.fresh_set (AHeap.fresh_set (by assumption)).2).1)).trans ?_; first | assumption | exact AHeap.set_same _ _ _)) | (refine (AHeap.set_other _ _ (by first | assumption | exact (AHeap.fresh_set (by assumption)).1 | exact Ne.symm (AHeap.fresh_set (by assumption)).1 | exact AHeap.ne_of (by assumption) (by assumption) | exact Ne.symm (AHeap.ne_of (by assumption) (by assumption)) | exact (AHeap.fresh_set (AHeap.fresh_set (by assumption)).2).1 | exact Ne.symm (AHeap.fresh_set (AHeap.fresh_set (by assumption)).2).1)).trans ?_; first | assumption | exact AHeap.set_same _ _ _ | exact AHeap.get_fresh (by assumption) (by first | assumption | exact AHeap.set_same _ _ _) | (refine (AHeap.set_other _ _ (by first | assumption | exact (AHeap.fresh_set (by assumption)).1 | exact Ne.symm (AHeap.fresh_set (by assumption)).1 | exact AHeap.ne_of (by assumption) (by assumption) | exact Ne.symm (AHeap.ne_of (by assumption) (by assumption)) | exact (AHeap.fresh_set (AHeap.fresh_set (by assumption)).2).1 | exact Ne.symm (AHeap.fresh_set (AHeap.fresh_set (by assumption)).2).1)).trans ?_; first | assumption | exact AHeap.set_same _ _ _))) | (refine (AHeap.set_other _ _ (by first | assumption | exact (AHeap.fresh_set (by assumption)).1 | exact Ne.symm (AHeap.fresh_set (by assumption)).1 | exact AHeap.ne_of (by assumption) (by assumption) | exact Ne.symm (AHeap.ne_of (by assumption) (by assumption)) | exact (AHeap.fresh_set (AHeap.fresh_set (by assumption)).2).1 | exact Ne.symm (AHeap.fresh_set (AHeap.fresh_set (by assumption)).2).1)).trans ?_; first | assumption | exact AHeap.set_same _ _ _ | exact AHeap.get_fresh (by assumption) (by first | assumption | exact AHeap.set_same _ _ _ | exact AHeap.get_fresh (by assumption) (by first | assumption | exact AHeap.set_same _ _ _) | (refine (AHeap.set_other _ _ (by first | assumption | exact (AHeap.fresh_set (by assumption)).1 | exact Ne.symm (AHeap.fresh_set (by assumption)).1 | exact AHeap.ne_of (by assumption) (by assumption) | exact Ne.symm (AHeap.ne_of (by assumption) (by assumption)) | exact (AHeap.fresh_set (AHeap.fresh_set (by assumption)).2).1 | exact Ne.symm (AHeap.fresh_set (AHeap.fresh_set (by assumption)).2).1)).trans ?_; first | assumption | exact AHeap.set_same _ _ _)) | (refine (AHeap.set_other _ _ (by first | assumption | exact (AHeap.fresh_set (by assumption)).1 | exact Ne.symm (AHeap.fresh_set (by assumption)).1 | exact AHeap.ne_of (by assumption) (by assumption) | exact Ne.symm (AHeap.ne_of (by assumption) (by assumption)) | exact (AHeap.fresh_set (AHeap.fresh_set (by assumption)).2).1 | exact Ne.symm (AHeap.fresh_set (AHeap.fresh_set (by assumption)).2).1)).trans ?_; first | assumption | exact AHeap.set_same _ _ _ | exact AHeap.get_fresh (by assumption) (by first | assumption | exact AHeap.set_same _ _ _) | (refine (AHeap.set_other _ _ (by first | assumption | exact (AHeap.fresh_set (by assumption)).1 | exact Ne.symm (AHeap.fresh_set (by assumption)).1 | exact AHeap.ne_of (by assumption) (by assumption) | exact Ne.symm (AHeap.ne_of (by assumption) (by assumption)) | exact (AHeap.fresh_set (AHeap.fresh_set (by assumption)).2).1 | exact Ne.symm (AHeap.fresh_set (AHeap.fresh_set (by assumption)).2).1)).trans ?_; first | assumption | exact AHeap.set_same _ _ _)))) (by rfl) | apply ResAt.cell1 rfl (by first | assumption | exact AHeap.set_same _ _ _ | exact AHeap.get_fresh (by assumption) (by first | assumption | exact AHeap.set_same _ _ _ | exact AHeap.get_fresh (by assumption) (by first | assumption | exact AHeap.set_same _ _ _ | exact AHeap.get_fresh (by assumption) (by first | assumption | exact AHeap.set_same _ _ _) | (refine (AHeap.set_other _ _ (by first | assumption | exact (AHeap.fresh_set (by assumption)).1 | exact Ne.symm (AHeap.fresh_set (by assumption)).1 | exact AHeap.ne_of (by assumption) (by assumption) | exact Ne.symm (AHeap.ne_of (by assumption) (by assumption)) | exact (AHeap.fresh_set (AHeap.fresh_set (by assumption)).2).1 | exact Ne.symm (AHeap.fresh_set (AHeap.fresh_set (by assumption)).2).1)).trans ?_; first | assumption | exact AHeap.set_same _ _ _)) | (refine (AHeap.set_other _ _ (by first | assumption | exact (AHeap.fresh_set (by assumption)).1 | exact Ne.symm (AHeap.fresh_set (by assumption)).1 | exact AHeap.ne_of (by assumption) (by assumption) | exact Ne.symm (AHeap.ne_of (by assumption) (by assumption)) | exact (AHeap.fresh_set (AHeap.fresh_set (by assumption)).2).1 | exact Ne.symm (AHeap.fresh_set (AHeap.fresh_set (by assumption)).2).1)).trans ?_; first | assumption | exact AHeap.set_same _ _ _ | exact AHeap.get_fresh (by assumption) (by first | assumption | exact AHeap.set_same _ _ _) | (refine (AHeap.set_other _ _ (by first | assumption | exact (AHeap.fresh_set (by assumption)).1 | exact Ne.symm (AHeap.fresh_set (by assumption)).1 | exact AHeap.ne_of (by assumption) (by assumption) | exact Ne.symm (AHeap.ne_of (by assumption) (by assumption)) | exact (AHeap.fresh_set (AHeap.fresh_set (by assumption)).2).1 | exact Ne.symm (AHeap.fresh_set (AHeap.fresh_set (by assumption)).2).1)).trans ?_; first | assumption | exact AHeap.set_same _ _ _))) | (refine (AHeap.set_other _ _ (by first | assumption | exact (AHeap.fresh_set (by assumption)).1 | exact Ne.symm (AHeap.fresh_set (by assumption)).1 | exact AHeap.ne_of (by assumption) (by assumption) | exact Ne.symm (AHeap.ne_of (by assumption) (by assumption)) | exact (AHeap.fresh_set (AHeap.fresh_set (by assumption)).2).1 | exact Ne.symm (AHeap.fresh_set (AHeap.fresh_set (by assumption)).2).1)).trans ?_; first | assumption | exact AHeap.set_same _ _ _ | exact AHeap.get_fresh (by assumption) (by first | assumption | exact AHeap.set_same _ _ _ | exact AHeap.get_fresh (by assumption) (by first | assumption | exact AHeap.set_same _ _ _) | (refine (AHeap.set_other _ _ (by first | assumption | exact (AHeap.fresh_set (by assumption)).1 | exact Ne.symm (AHeap.fresh_set (by assumption)).1 | exact AHeap.ne_of (by assumption) (by assumption) | exact Ne.symm (AHeap.ne_of (by assumption) (by assumption)) | exact (AHeap.fresh_set (AHeap.fresh_set (by assumption)).2).1 | exact Ne.symm (AHeap.fresh_set (AHeap.fresh_set (by assumption)).2).1)).trans ?_; first | assumption | exact AHeap.set_same _ _ _)) | (refine (AHeap.set_other _ _ (by first | assumption | exact (AHeap.fresh_set (by assumption)).1 | exact Ne.symm (AHeap.fresh_set (by assumption)).1 | exact AHeap.ne_of (by assumption) (by assumption) | exact Ne.symm (AHeap.ne_of (by assumption) (by assumption)) | exact (AHeap.fresh_set (AHeap.fresh_set (by assumption)).2).1 | exact Ne.symm (AHeap.fresh_set (AHeap.fresh_set (by assumption)).2).1)).trans ?_; first | assumption | exact AHeap.set_same _ _ _ | exact AHeap.get_fresh (by assumption) (by first | assumption | exact AHeap.set_same _ _ _) | (refine (AHeap.set_other _ _ (by first | assumption | exact (AHeap.fresh_set (by assumption)).1 | exact Ne.symm (AHeap.fresh_set (by assumption)).1 | exact AHeap.ne_of (by assumption) (by assumption) | exact Ne.symm (AHeap.ne_of (by assumption) (by assumption)) | exact (AHeap.fresh_set (AHeap.fresh_set (by assumption)).2).1 | exact Ne.symm (AHeap.fresh_set (AHeap.fresh_set (by assumption)).2).1)).trans ?_; first | assumption | exact AHeap.set_same _ _ _)))) (by rfl))
    exact ⟨_, _, .refl _, (by repeat (first | exact AHeap.le.refl _ | refine AHeap.le.set ?_ _ (by first | assumption | exact (AHeap.fresh_set (by assumption)).2 | exact (AHeap.fresh_set (AHeap.fresh_set (by assumption)).2).2 | exact (AHeap.fresh_set (AHeap.fresh_set (AHeap.fresh_set (by assumption)).2).2).2 | exact (AHeap.fresh_set (AHeap.fresh_set (AHeap.fresh_set (AHeap.fresh_set (by assumption)).2).2).2).2) | refine AHeap.le.both ?_ _ _)), rfl, rfl⟩
  · cases g1
    rw [g5]
    have b1 := append_s L1 (x :: r)
    have b2 := append_len L1 (x :: r)
    have b3 := append_mem L1 (x :: r)
    have hn := place_le i1 (by omega) g3 g4
    generalize hkk : (x.index - (L1.s.index + 1)).toNat = kk at g6 hn
    generalize (L1.append (x :: r)).1 = L2 at b1 b2 b3 g6
    have i2 : L2.s.index ≤ far := by rw [b1]; exact i1
    have l2 : L2.l.length ≤ 24 := by omega
    have m2 : ∀ y ∈ L2.l, y.data.length ≤ 140737488355328 := fun y hy => (b3 y hy).elim (m1 y) (fun h => Nat.le_trans (hs3.2 y h) (by decide))
    have e2 : ∀ H : AHeap, H p = some (.box L2.cells) → ACalls Try.prog 15 [ptr p, u64 (L2.s.index + 1), i64 100] H (fun x h' => x = entries L2.l ∧ h' = H) := fun H hH => by
      have := entries_spec L2 m2 i2 (by omega) (L2.s.index + 1) 100 (by decide) p H hH
      rwa [at_all L2 i2 (by omega)] at this
    have hk : ∀ j (hj : j < L1.l.length), L1.l[j].index.toNat < x.index.toNat ↔ j < kk := by
      intro j hj
      rw [a4 j hj, ← a1, ← hkk]
      have g3' := UInt64.le_iff_toNat_le.1 g3
      have g7 := UInt64.le_iff_toNat_le.1 i1
      have g8 : far.toNat = 4611686018427387904 := rfl
      have h5 : (UInt64.ofNat j).toNat = j := UInt64.toNat_ofNat_of_lt' (by simp only [UInt64.size]; omega)
      have hx := x.index.toNat_lt
      simp only [UInt64.toNat_add, UInt64.toNat_sub, h5] at g3' ⊢
      simp at g3' ⊢
      omega
    repeat' (first
      | refine S.nilK ?_
      | (refine S.op rfl ?_; first
        | refine R.eqInt rfl rfl ?_
        | refine R.callQ (by decide) rfl (first_spec L2 p _ (AHeap.set_same _ _ _)) ?_
        | refine R.callQ (by decide) rfl (e2 _ (AHeap.set_same _ _ _)) ?_
        | refine R.mv rfl ?_
        | refine R.fieldAddr rfl ?_
        | refine R.fieldAddrR rfl ?_
        | refine R.nilCheck rfl ?_
        | refine R.nilCheckR rfl ?_
        | refine R.loadR rfl rfl ?_
        | refine R.load (by decide) rfl (by first | assumption | exact AHeap.set_same _ _ _ | exact AHeap.get_fresh (by assumption) (by first | assumption | exact AHeap.set_same _ _ _ | exact AHeap.get_fresh (by assumption) (by first | assumption | exact AHeap.set_same _ _ _ | exact AHeap.get_fresh (by assumption) (by first | assumption | exact AHeap.set_same _ _ _) | (refine (AHeap.set_other _ _ (by first | assumption | exact (AHeap.fresh_set (by assumption)).1 | exact Ne.symm (AHeap.fresh_set (by assumption)).1 | exact AHeap.ne_of (by assumption) (by assumption) | exact Ne.symm (AHeap.ne_of (by assumption) (by assumption)) | exact (AHeap.fresh_set (AHeap.fresh_set (by assumption)).2).1 | exact Ne.symm (AHeap.fresh_set (AHeap.fresh_set (by assumption)).2).1)).trans ?_; first | assumption | exact AHeap.set_same _ _ _)) | (refine (AHeap.set_other _ _ (by first | assumption | exact (AHeap.fresh_set (by assumption)).1 | exact Ne.symm (AHeap.fresh_set (by assumption)).1 | exact AHeap.ne_of (by assumption) (by assumption) | exact Ne.symm (AHeap.ne_of (by assumption) (by assumption)) | exact (AHeap.fresh_set (AHeap.fresh_set (by assumption)).2).1 | exact Ne.symm (AHeap.fresh_set (AHeap.fresh_set (by assumption)).2).1)).trans ?_; first | assumption | exact AHeap.set_same _ _ _ | exact AHeap.get_fresh (by assumption) (by first | assumption | exact AHeap.set_same _ _ _) | (refine (AHeap.set_other _ _ (by first | assumption | exact (AHeap.fresh_set (by assumption)).1 | exact Ne.symm (AHeap.fresh_set (by assumption)).1 | exact AHeap.ne_of (by assumption) (by assumption) | exact Ne.symm (AHeap.ne_of (by assumption) (by assumption)) | exact (AHeap.fresh_set (AHeap.fresh_set (by assumption)).2).1 | exact Ne.symm (AHeap.fresh_set (AHeap.fresh_set (by assumption)).2).1)).trans ?_; first | assumption | exact AHeap.set_same _ _ _))) | (refine (AHeap.set_other _ _ (by first | assumption | exact (AHeap.fresh_set (by assumption)).1 | exact Ne.symm (AHeap.fresh_set (by assumption)).1 | exact AHeap.ne_of (by assumption) (by assumption) | exact Ne.symm (AHeap.ne_of (by assumption) (by assumption)) | exact (AHeap.fresh_set (AHeap.fresh_set (by assumption)).2).1 | exact Ne.symm (AHeap.fresh_set (AHeap.fresh_set (by assumption)).2).1)).trans ?_; first | assumption | exact AHeap.set_same _ _ _ | exact AHeap.get_fresh (by assumption) (by first | assumption | exact AHeap.set_same _ _ _ | exact AHeap.get_fresh (by assumption) (by first | assumption | exact AHeap.set_same _ _ _) | (refine (AHeap.set_other _ _ (by first | assumption | exact (AHeap.fresh_set (by assumption)).1 | exact Ne.symm (AHeap.fresh_set (by assumption)).1 | exact AHeap.ne_of (by assumption) (by assumption) | exact Ne.symm (AHeap.ne_of (by assumption) (by assumption)) | exact (AHeap.fresh_set (AHeap.fresh_set (by assumption)).2).1 | exact Ne.symm (AHeap.fresh_set (AHeap.fresh_set (by assumption)).2).1)).trans ?_; first | assumption | exact AHeap.set_same _ _ _)) | (refine (AHeap.set_other _ _ (by first | assumption | exact (AHeap.fresh_set (by assumption)).1 | exact Ne.symm (AHeap.fresh_set (by assumption)).1 | exact AHeap.ne_of (by assumption) (by assumption) | exact Ne.symm (AHeap.ne_of (by assumption) (by assumption)) | exact (AHeap.fresh_set (AHeap.fresh_set (by assumption)).2).1 | exact Ne.symm (AHeap.fresh_set (AHeap.fresh_set (by assumption)).2).1)).trans ?_; first | assumption | exact AHeap.set_same _ _ _ | exact AHeap.get_fresh (by assumption) (by first | assumption | exact AHeap.set_same _ _ _) | (refine (AHeap.set_other _ _ (by first | assumption | exact (AHeap.fresh_set (by assumption)).1 | exact Ne.symm (AHeap.fresh_set (by assumption)).1 | exact AHeap.ne_of (by assumption) (by assumption) | exact Ne.symm (AHeap.ne_of (by assumption) (by assumption)) | exact (AHeap.fresh_set (AHeap.fresh_set (by assumption)).2).1 | exact Ne.symm (AHeap.fresh_set (AHeap.fresh_set (by assumption)).2).1)).trans ?_; first | assumption | exact AHeap.set_same _ _ _)))) rfl ?_
        | refine S.addI rfl rfl (by omega) ?_
        | refine S.subI rfl rfl (by omega) ?_
        | refine S.addU rfl rfl ?_
        | refine S.subU rfl rfl ?_
        | refine S.addUc rfl (by decide) ?_
        | refine S.subUc rfl (by decide) ?_
        | refine S.arith rfl rfl rfl ?_
        | refine R.pickT rfl rfl ?_
        | refine R.pickF rfl rfl ?_
        | refine R.len rfl ?_
        | refine R.lenA rfl ?_
        | refine R.lenStr rfl ?_
        | refine S.convIU rfl (by omega) ?_
        | refine S.convUI rfl (by omega) ?_
        | refine R.convInt rfl ?_
        | refine R.not rfl ?_
        | refine R.eqPtrNil rfl rfl ?_
        | refine R.extract rfl rfl ?_
        | refine R.field rfl rfl ?_
        | refine R.alloc rfl (fun b hb => ?_)
        | refine R.box rfl rfl rfl (fun b hb => ?_)
        | refine R.build rfl rfl ?_
        | refine R.buildSl rfl rfl rfl (by decide) ?_
        | refine R.toStr rfl ?_
        | refine R.convStr rfl ?_
        | refine R.minmax rfl ?_
        | refine R.makeFunc rfl rfl ?_
        | (first | refine S.lss rfl rfl (fun hlt => ?_) (fun hlt => by exfalso; omega) | refine S.lss rfl rfl (fun hlt => by exfalso; omega) (fun hlt => ?_) | refine S.lss rfl rfl (fun hlt => ?_) (fun hlt => ?_))
        | (first | refine S.gtr rfl rfl (fun hlt => ?_) (fun hlt => by exfalso; omega) | refine S.gtr rfl rfl (fun hlt => by exfalso; omega) (fun hlt => ?_) | refine S.gtr rfl rfl (fun hlt => ?_) (fun hlt => ?_))
        | (first | refine S.leq rfl rfl (fun hlt => ?_) (fun hlt => by exfalso; omega) | refine S.leq rfl rfl (fun hlt => by exfalso; omega) (fun hlt => ?_) | refine S.leq rfl rfl (fun hlt => ?_) (fun hlt => ?_))
        | (first | refine S.geq rfl rfl (fun hlt => ?_) (fun hlt => by exfalso; omega) | refine S.geq rfl rfl (fun hlt => by exfalso; omega) (fun hlt => ?_) | refine S.geq rfl rfl (fun hlt => ?_) (fun hlt => ?_))
        | (first | refine S.eqInt rfl rfl (fun hlt => ?_) (fun hlt => by exfalso; omega) | refine S.eqInt rfl rfl (fun hlt => by exfalso; omega) (fun hlt => ?_) | refine S.eqInt rfl rfl (fun hlt => ?_) (fun hlt => ?_)))
      | (refine S.op0 rfl ?_; first | refine S.store rfl rfl (by first | assumption | exact AHeap.set_same _ _ _ | exact AHeap.get_fresh (by assumption) (by first | assumption | exact AHeap.set_same _ _ _ | exact AHeap.get_fresh (by assumption) (by first | assumption | exact AHeap.set_same _ _ _ | exact AHeap.get_fresh (by assumption) (by first | assumption | exact AHeap.set_same _ _ _) | (refine (AHeap.set_other _ _ (by first | assumption | exact (AHeap.fresh_set (by assumption)).1 | exact Ne.symm (AHeap.fresh_set (by assumption)).1 | exact AHeap.ne_of (by assumption) (by assumption) | exact Ne.symm (AHeap.ne_of (by assumption) (by assumption)) | exact (AHeap.fresh_set (AHeap.fresh_set (by assumption)).2).1 | exact Ne.symm (AHeap.fresh_set (AHeap.fresh_set (by assumption)).2).1)).trans ?_; first | assumption | exact AHeap.set_same _ _ _)) | (refine (AHeap.set_other _ _ (by first | assumption | exact (AHeap.fresh_set (by assumption)).1 | exact Ne.symm (AHeap.fresh_set (by assumption)).1 | exact AHeap.ne_of (by assumption) (by assumption) | exact Ne.symm (AHeap.ne_of (by assumption) (by assumption)) | exact (AHeap.fresh_set (AHeap.fresh_set (by assumption)).2).1 | exact Ne.symm (AHeap.fresh_set (AHeap.fresh_set (by assumption)).2).1)).trans ?_; first | assumption | exact AHeap.set_same _ _ _ | exact AHeap.get_fresh (by assumption) (by first | assumption | exact AHeap.set_same _ _ _) | (refine (AHeap.set_other _ _ (by first | assumption | exact (AHeap.fresh_set (by assumption)).1 | exact Ne.symm (AHeap.fresh_set (by assumption)).1 | exact AHeap.ne_of (by assumption) (by assumption) | exact Ne.symm (AHeap.ne_of (by assumption) (by assumption)) | exact (AHeap.fresh_set (AHeap.fresh_set (by assumption)).2).1 | exact Ne.symm (AHeap.fresh_set (AHeap.fresh_set (by assumption)).2).1)).trans ?_; first | assumption | exact AHeap.set_same _ _ _))) | (refine (AHeap.set_other _ _ (by first | assumption | exact (AHeap.fresh_set (by assumption)).1 | exact Ne.symm (AHeap.fresh_set (by assumption)).1 | exact AHeap.ne_of (by assumption) (by assumption) | exact Ne.symm (AHeap.ne_of (by assumption) (by assumption)) | exact (AHeap.fresh_set (AHeap.fresh_set (by assumption)).2).1 | exact Ne.symm (AHeap.fresh_set (AHeap.fresh_set (by assumption)).2).1)).trans ?_; first | assumption | exact AHeap.set_same _ _ _ | exact AHeap.get_fresh (by assumption) (by first | assumption | exact AHeap.set_same _ _ _ | exact AHeap.get_fresh (by assumption) (by first | assumption | exact AHeap.set_same _ _ _) | (refine (AHeap.set_other _ _ (by first | assumption | exact (AHeap.fresh_set (by assumption)).1 | exact Ne.symm (AHeap.fresh_set (by assumption)).1 | exact AHeap.ne_of (by assumption) (by assumption) | exact Ne.symm (AHeap.ne_of (by assumption) (by assumption)) | exact (AHeap.fresh_set (AHeap.fresh_set (by assumption)).2).1 | exact Ne.symm (AHeap.fresh_set (AHeap.fresh_set (by assumption)).2).1)).trans ?_; first | assumption | exact AHeap.set_same _ _ _)) | (refine (AHeap.set_other _ _ (by first | assumption | exact (AHeap.fresh_set (by assumption)).1 | exact Ne.symm (AHeap.fresh_set (by assumption)).1 | exact AHeap.ne_of (by assumption) (by assumption) | exact Ne.symm (AHeap.ne_of (by assumption) (by assumption)) | exact (AHeap.fresh_set (AHeap.fresh_set (by assumption)).2).1 | exact Ne.symm (AHeap.fresh_set (AHeap.fresh_set (by assumption)).2).1)).trans ?_; first | assumption | exact AHeap.set_same _ _ _ | exact AHeap.get_fresh (by assumption) (by first | assumption | exact AHeap.set_same _ _ _) | (refine (AHeap.set_other _ _ (by first | assumption | exact (AHeap.fresh_set (by assumption)).1 | exact Ne.symm (AHeap.fresh_set (by assumption)).1 | exact AHeap.ne_of (by assumption) (by assumption) | exact Ne.symm (AHeap.ne_of (by assumption) (by assumption)) | exact (AHeap.fresh_set (AHeap.fresh_set (by assumption)).2).1 | exact Ne.symm (AHeap.fresh_set (AHeap.fresh_set (by assumption)).2).1)).trans ?_; first | assumption | exact AHeap.set_same _ _ _)))) rfl rfl rfl (by rfl) rfl ?_)
      | refine S.skip rfl ?_
      | refine S.skip0 rfl ?_
      | refine S.seq ?_
      | refine S.region ?_
      | refine S.condT rfl ?_
      | refine S.condF rfl ?_
      | refine RRun.skip ?_
      | refine RRun.block ?_
      | refine RRun.inBlock ?_
      | refine RRun.exit rfl ?_)
    refine RRun.loopIn (S.keep [10, 8, 2, 9] rfl ?_)
    refine keeps_loop L1.l x r L2.l kk hn (by omega) hk _ _ _ ?_ kk 0 (by omega)
    have d1 : (L2.l.map Entry.cells).length = kk + (x :: r).length := by rw [List.length_map, g6]; simp; omega
    have d2 : (L1.l.map Entry.cells).length = L1.l.length := by simp
    have d3 := same_spec (L1.l.take kk) (by simp; omega)
    have d4 := same_spec (x :: r) (by omega)
    have d5 : (L2.l.map Entry.cells).take ((kk : Nat) : Int).toNat = (L1.l.take kk).map Entry.cells := by
      rw [g6, Int.toNat_natCast, List.map_append, List.take_append_of_le_length (by simp; omega), List.map_take, List.take_take]; simp
    have d6 : (L1.l.map Entry.cells).take ((kk : Nat) : Int).toNat = (L1.l.take kk).map Entry.cells := by
      rw [Int.toNat_natCast, List.map_take]
    have d7 : (L2.l.map Entry.cells).drop ((kk : Nat) : Int).toNat = (x :: r).map Entry.cells := by
      rw [g6, Int.toNat_natCast, List.map_append, List.drop_append, List.drop_of_length_le (by simp; omega)]
      simp [Nat.min_eq_left hn]
    have d3' : ∀ h, ACalls Try.prog 17 [.sl 4 ((L2.l.map Entry.cells).take ((kk : Nat) : Int).toNat) .ro, .sl 4 ((L1.l.map Entry.cells).take ((kk : Nat) : Int).toNat) .ro] h (fun x h' => x = bl true ∧ h' = h) := by
      intro h; rw [d5, d6]; exact d3 h
    have d4' : ∀ h, ACalls Try.prog 17 [.sl 4 ((L2.l.map Entry.cells).drop ((kk : Nat) : Int).toNat) .ro, entries (x :: r)] h (fun x h' => x = bl true ∧ h' = h) := by
      intro h; rw [d7]; exact d4 h
    repeat' (first
      | refine S.nilK ?_
      | (refine S.op rfl ?_; first
        | refine S.sliceH rfl rfl (by omega) (by omega) (by decide) ?_
        | refine S.sliceL rfl rfl (by omega) (by omega) (by decide) ?_
        | refine R.callQ (by decide) rfl (d3' _) ?_
        | refine R.callQ (by decide) rfl (d4' _) ?_
        | refine R.mv rfl ?_
        | refine R.fieldAddr rfl ?_
        | refine R.fieldAddrR rfl ?_
        | refine R.nilCheck rfl ?_
        | refine R.nilCheckR rfl ?_
        | refine R.loadR rfl rfl ?_
        | refine R.load (by decide) rfl (by first | assumption | exact AHeap.set_same _ _ _ | exact AHeap.get_fresh (by assumption) (by first | assumption | exact AHeap.set_same _ _ _ | exact AHeap.get_fresh (by assumption) (by first | assumption | exact AHeap.set_same _ _ _ | exact AHeap.get_fresh (by assumption) (by first | assumption | exact AHeap.set_same _ _ _) | (refine (AHeap.set_other _ _ (by first | assumption | exact (AHeap.fresh_set (by assumption)).1 | exact Ne.symm (AHeap.fresh_set (by assumption)).1 | exact AHeap.ne_of (by assumption) (by assumption) | exact Ne.symm (AHeap.ne_of (by assumption) (by assumption)) | exact (AHeap.fresh_set (AHeap.fresh_set (by assumption)).2).1 | exact Ne.symm (AHeap.fresh_set (AHeap.fresh_set (by assumption)).2).1)).trans ?_; first | assumption | exact AHeap.set_same _ _ _)) | (refine (AHeap.set_other _ _ (by first | assumption | exact (AHeap.fresh_set (by assumption)).1 | exact Ne.symm (AHeap.fresh_set (by assumption)).1 | exact AHeap.ne_of (by assumption) (by assumption) | exact Ne.symm (AHeap.ne_of (by assumption) (by assumption)) | exact (AHeap.fresh_set (AHeap.fresh_set (by assumption)).2).1 | exact Ne.symm (AHeap.fresh_set (AHeap.fresh_set (by assumption)).2).1)).trans ?_; first | assumption | exact AHeap.set_same _ _ _ | exact AHeap.get_fresh (by assumption) (by first | assumption | exact AHeap.set_same _ _ _) | (refine (AHeap.set_other _ _ (by first | assumption | exact (AHeap.fresh_set (by assumption)).1 | exact Ne.symm (AHeap.fresh_set (by assumption)).1 | exact AHeap.ne_of (by assumption) (by assumption) | exact Ne.symm (AHeap.ne_of (by assumption) (by assumption)) | exact (AHeap.fresh_set (AHeap.fresh_set (by assumption)).2).1 | exact Ne.symm (AHeap.fresh_set (AHeap.fresh_set (by assumption)).2).1)).trans ?_; first | assumption | exact AHeap.set_same _ _ _))) | (refine (AHeap.set_other _ _ (by first | assumption | exact (AHeap.fresh_set (by assumption)).1 | exact Ne.symm (AHeap.fresh_set (by assumption)).1 | exact AHeap.ne_of (by assumption) (by assumption) | exact Ne.symm (AHeap.ne_of (by assumption) (by assumption)) | exact (AHeap.fresh_set (AHeap.fresh_set (by assumption)).2).1 | exact Ne.symm (AHeap.fresh_set (AHeap.fresh_set (by assumption)).2).1)).trans ?_; first | assumption | exact AHeap.set_same _ _ _ | exact AHeap.get_fresh (by assumption) (by first | assumption | exact AHeap.set_same _ _ _ | exact AHeap.get_fresh (by assumption) (by first | assumption | exact AHeap.set_same _ _ _) | (refine (AHeap.set_other _ _ (by first | assumption | exact (AHeap.fresh_set (by assumption)).1 | exact Ne.symm (AHeap.fresh_set (by assumption)).1 | exact AHeap.ne_of (by assumption) (by assumption) | exact Ne.symm (AHeap.ne_of (by assumption) (by assumption)) | exact (AHeap.fresh_set (AHeap.fresh_set (by assumption)).2).1 | exact Ne.symm (AHeap.fresh_set (AHeap.fresh_set (by assumption)).2).1)).trans ?_; first | assumption | exact AHeap.set_same _ _ _)) | (refine (AHeap.set_other _ _ (by first | assumption | exact (AHeap.fresh_set (by assumption)).1 | exact Ne.symm (AHeap.fresh_set (by assumption)).1 | exact AHeap.ne_of (by assumption) (by assumption) | exact Ne.symm (AHeap.ne_of (by assumption) (by assumption)) | exact (AHeap.fresh_set (AHeap.fresh_set (by assumption)).2).1 | exact Ne.symm (AHeap.fresh_set (AHeap.fresh_set (by assumption)).2).1)).trans ?_; first | assumption | exact AHeap.set_same _ _ _ | exact AHeap.get_fresh (by assumption) (by first | assumption | exact AHeap.set_same _ _ _) | (refine (AHeap.set_other _ _ (by first | assumption | exact (AHeap.fresh_set (by assumption)).1 | exact Ne.symm (AHeap.fresh_set (by assumption)).1 | exact AHeap.ne_of (by assumption) (by assumption) | exact Ne.symm (AHeap.ne_of (by assumption) (by assumption)) | exact (AHeap.fresh_set (AHeap.fresh_set (by assumption)).2).1 | exact Ne.symm (AHeap.fresh_set (AHeap.fresh_set (by assumption)).2).1)).trans ?_; first | assumption | exact AHeap.set_same _ _ _)))) rfl ?_
        | refine S.addI rfl rfl (by omega) ?_
        | refine S.subI rfl rfl (by omega) ?_
        | refine S.addU rfl rfl ?_
        | refine S.subU rfl rfl ?_
        | refine S.addUc rfl (by decide) ?_
        | refine S.subUc rfl (by decide) ?_
        | refine S.arith rfl rfl rfl ?_
        | refine R.pickT rfl rfl ?_
        | refine R.pickF rfl rfl ?_
        | refine R.len rfl ?_
        | refine R.lenA rfl ?_
        | refine R.lenStr rfl ?_
        | refine S.convIU rfl (by omega) ?_
        | refine S.convUI rfl (by omega) ?_
        | refine R.convInt rfl ?_
        | refine R.not rfl ?_
        | refine R.eqPtrNil rfl rfl ?_
        | refine R.extract rfl rfl ?_
        | refine R.field rfl rfl ?_
        | refine R.alloc rfl (fun b hb => ?_)
        | refine R.box rfl rfl rfl (fun b hb => ?_)
        | refine R.build rfl rfl ?_
        | refine R.buildSl rfl rfl rfl (by decide) ?_
        | refine R.toStr rfl ?_
        | refine R.convStr rfl ?_
        | refine R.minmax rfl ?_
        | refine R.makeFunc rfl rfl ?_
        | (first | refine S.lss rfl rfl (fun hlt => ?_) (fun hlt => by exfalso; omega) | refine S.lss rfl rfl (fun hlt => by exfalso; omega) (fun hlt => ?_) | refine S.lss rfl rfl (fun hlt => ?_) (fun hlt => ?_))
        | (first | refine S.gtr rfl rfl (fun hlt => ?_) (fun hlt => by exfalso; omega) | refine S.gtr rfl rfl (fun hlt => by exfalso; omega) (fun hlt => ?_) | refine S.gtr rfl rfl (fun hlt => ?_) (fun hlt => ?_))
        | (first | refine S.leq rfl rfl (fun hlt => ?_) (fun hlt => by exfalso; omega) | refine S.leq rfl rfl (fun hlt => by exfalso; omega) (fun hlt => ?_) | refine S.leq rfl rfl (fun hlt => ?_) (fun hlt => ?_))
        | (first | refine S.geq rfl rfl (fun hlt => ?_) (fun hlt => by exfalso; omega) | refine S.geq rfl rfl (fun hlt => by exfalso; omega) (fun hlt => ?_) | refine S.geq rfl rfl (fun hlt => ?_) (fun hlt => ?_))
        | (first | refine S.eqInt rfl rfl (fun hlt => ?_) (fun hlt => by exfalso; omega) | refine S.eqInt rfl rfl (fun hlt => by exfalso; omega) (fun hlt => ?_) | refine S.eqInt rfl rfl (fun hlt => ?_) (fun hlt => ?_)))
      | (refine S.op0 rfl ?_; first | refine S.store rfl rfl (by first | assumption | exact AHeap.set_same _ _ _ | exact AHeap.get_fresh (by assumption) (by first | assumption | exact AHeap.set_same _ _ _ | exact AHeap.get_fresh (by assumption) (by first | assumption | exact AHeap.set_same _ _ _ | exact AHeap.get_fresh (by assumption) (by first | assumption | exact AHeap.set_same _ _ _) | (refine (AHeap.set_other _ _ (by first | assumption | exact (AHeap.fresh_set (by assumption)).1 | exact Ne.symm (AHeap.fresh_set (by assumption)).1 | exact AHeap.ne_of (by assumption) (by assumption) | exact Ne.symm (AHeap.ne_of (by assumption) (by assumption)) | exact (AHeap.fresh_set (AHeap.fresh_set (by assumption)).2).1 | exact Ne.symm (AHeap.fresh_set (AHeap.fresh_set (by assumption)).2).1)).trans ?_; first | assumption | exact AHeap.set_same _ _ _)) | (refine (AHeap.set_other _ _ (by first | assumption | exact (AHeap.fresh_set (by assumption)).1 | exact Ne.symm (AHeap.fresh_set (by assumption)).1 | exact AHeap.ne_of (by assumption) (by assumption) | exact Ne.symm (AHeap.ne_of (by assumption) (by assumption)) | exact (AHeap.fresh_set (AHeap.fresh_set (by assumption)).2).1 | exact Ne.symm (AHeap.fresh_set (AHeap.fresh_set (by assumption)).2).1)).trans ?_; first | assumption | exact AHeap.set_same _ _ _ | exact AHeap.get_fresh (by assumption) (by first | assumption | exact AHeap.set_same _ _ _) | (refine (AHeap.set_other _ _ (by first | assumption | exact (AHeap.fresh_set (by assumption)).1 | exact Ne.symm (AHeap.fresh_set (by assumption)).1 | exact AHeap.ne_of (by assumption) (by assumption) | exact Ne.symm (AHeap.ne_of (by assumption) (by assumption)) | exact (AHeap.fresh_set (AHeap.fresh_set (by assumption)).2).1 | exact Ne.symm (AHeap.fresh_set (AHeap.fresh_set (by assumption)).2).1)).trans ?_; first | assumption | exact AHeap.set_same _ _ _))) | (refine (AHeap.set_other _ _ (by first | assumption | exact (AHeap.fresh_set (by assumption)).1 | exact Ne.symm (AHeap.fresh_set (by assumption)).1 | exact AHeap.ne_of (by assumption) (by assumption) | exact Ne.symm (AHeap.ne_of (by assumption) (by assumption)) | exact (AHeap.fresh_set (AHeap.fresh_set (by assumption)).2).1 | exact Ne.symm (AHeap.fresh_set (AHeap.fresh_set (by assumption)).2).1)).trans ?_; first | assumption | exact AHeap.set_same _ _ _ | exact AHeap.get_fresh (by assumption) (by first | assumption | exact AHeap.set_same _ _ _ | exact AHeap.get_fresh (by assumption) (by first | assumption | exact AHeap.set_same _ _ _) | (refine (AHeap.set_other _ _ (by first | assumption | exact (AHeap.fresh_set (by assumption)).1 | exact Ne.symm (AHeap.fresh_set (by assumption)).1 | exact AHeap.ne_of (by assumption) (by assumption) | exact Ne.symm (AHeap.ne_of (by assumption) (by assumption)) | exact (AHeap.fresh_set (AHeap.fresh_set (by assumption)).2).1 | exact Ne.symm (AHeap.fresh_set (AHeap.fresh_set (by assumption)).2).1)).trans ?_; first | assumption | exact AHeap.set_same _ _ _)) | (refine (AHeap.set_other _ _ (by first | assumption | exact (AHeap.fresh_set (by assumption)).1 | exact Ne.symm (AHeap.fresh_set (by assumption)).1 | exact AHeap.ne_of (by assumption) (by assumption) | exact Ne.symm (AHeap.ne_of (by assumption) (by assumption)) | exact (AHeap.fresh_set (AHeap.fresh_set (by assumption)).2).1 | exact Ne.symm (AHeap.fresh_set (AHeap.fresh_set (by assumption)).2).1)).trans ?_; first | assumption | exact AHeap.set_same _ _ _ | exact AHeap.get_fresh (by assumption) (by first | assumption | exact AHeap.set_same _ _ _) | (refine (AHeap.set_other _ _ (by first | assumption | exact (AHeap.fresh_set (by assumption)).1 | exact Ne.symm (AHeap.fresh_set (by assumption)).1 | exact AHeap.ne_of (by assumption) (by assumption) | exact Ne.symm (AHeap.ne_of (by assumption) (by assumption)) | exact (AHeap.fresh_set (AHeap.fresh_set (by assumption)).2).1 | exact Ne.symm (AHeap.fresh_set (AHeap.fresh_set (by assumption)).2).1)).trans ?_; first | assumption | exact AHeap.set_same _ _ _)))) rfl rfl rfl (by rfl) rfl ?_)
      | refine S.skip rfl ?_
      | refine S.skip0 rfl ?_
      | refine S.seq ?_
      | refine S.region ?_
      | refine S.condT rfl ?_
      | refine S.condF rfl ?_
      | refine RRun.skip ?_
      | refine RRun.block ?_
      | refine RRun.inBlock ?_
      | refine RRun.exit rfl ?_)
    apply S.ret rr3
    case hx => repeat (first | exact ResAt.nil | apply ResAt.tmp rfl | apply ResAt.cellA rfl (by first | assumption | exact AHeap.set_same _ _ _ | exact AHeap.get_fresh (by assumption) (by first | assumption | exact AHeap.set_same _ _ _ | exact AHeap.get_fresh (by assumption) (by first | assumption | exact AHeap.set_same _ _ _ | exact AHeap.get_fresh (by assumption) (by first | assumption | exact AHeap.set_same _ _ _) | (refine (AHeap.set_other _ _ (by first | assumption | exact (AHeap.fresh_set (by assumption)).1 | exact Ne.symm (AHeap.fresh_set (by assumption)).1 | exact AHeap.ne_of (by assumption) (by assumption) | exact Ne.symm (AHeap.ne_of (by assumption) (by assumption)) | exact (AHeap.fresh_set (AHeap.fresh_set (by assumption)).2).1 | exact Ne.symm (AHeap.fresh_set (AHeap.fresh_set (by assumption)).2).1)).trans ?_; first | assumption | exact AHeap.set_same _ _ _)) | (refine (AHeap.set_other _ _ (by first | assumption | exact (AHeap.fresh_set (by assumption)).1 | exact Ne.symm (AHeap.fresh_set (by assumption)).1 | exact AHeap.ne_of (by assumption) (by assumption) | exact Ne.symm (AHeap.ne_of (by assumption) (by assumption)) | exact (AHeap.fresh_set (AHeap.fresh_set (by assumption)).2).1 | exact Ne.symm (AHeap.fresh_set (AHeap.fresh_set (by assumption)).2).1)).trans ?_; first | assumption | exact AHeap.set_same _ _ _ | exact AHeap.get_fresh (by assumption) (by first | assumption | exact AHeap.set_same _ _ _) | (refine (AHeap.set_other _ _ (by first | assumption | exact (AHeap.fresh_set (by assumption)).1 | exact Ne.symm (AHeap.fresh_set (by assumption)).1 | exact AHeap.ne_of (by assumption) (by assumption) | exact Ne.symm (AHeap.ne_of (by assumption) (by assumption)) | exact (AHeap.fresh_set (AHeap.fresh_set (by assumption)).2).1 | exact Ne.symm (AHeap.fresh_set (AHeap.fresh_set (by assumption)).2).1)).trans ?_; first | assumption | exact AHeap.set_same _ _ _))) | (refine (AHeap.set_other _ _ (by first | assumption | exact (AHeap.fresh_set (by assumption)).1 | exact Ne.symm (AHeap.fresh_set (by assumption)).1 | exact AHeap.ne_of (by assumption) (by assumption) | exact Ne.symm (AHeap.ne_of (by assumption) (by assumption)) | exact (AHeap.fresh_set (AHeap.fresh_set (by assumption)).2).1 | exact Ne.symm (AHeap.fresh_set (AHeap.fresh_set (by assumption)).2).1)).trans ?_; first | assumption | exact AHeap.set_same _ _ _ | exact AHeap.get_fresh (by assumption) (by first | assumption | exact AHeap.set_same _ _ _ | exact AHeap.get_fresh (by assumption) (by first | assumption | exact AHeap.set_same _ _ _) | (refine (AHeap.set_other _ _ (by first | assumption | exact (AHeap.fresh_set (by assumption)).1 | exact Ne.symm (AHeap.fresh_set (by assumption)).1 | exact AHeap.ne_of (by assumption) (by assumption) | exact Ne.symm (AHeap.ne_of (by assumption) (by assumption)) | exact (AHeap.fresh_set (AHeap.fresh_set (by assumption)).2).1 | exact Ne.symm (AHeap.fresh_set (AHeap.fresh_set (by assumption)).2).1)).trans ?_; first | assumption | exact AHeap.set_same _ _ _)) | (refine (AHeap.set_other _ _ (by first | assumption | exact (AHeap.fresh_set (by assumption)).1 | exact Ne.symm (AHeap.fresh_set (by assumption)).1 | exact AHeap.ne_of (by assumption) (by assumption) | exact Ne.symm (AHeap.ne_of (by assumption) (by assumption)) | exact (AHeap.fresh_set (AHeap.fresh_set (by assumption)).2).1 | exact Ne.symm (AHeap.fresh_set (AHeap.fresh_set (by assumption)).2).1)).trans ?_; first | assumption | exact AHeap.set_same _ _ _ | exact AHeap.get_fresh (by assumption) (by first | assumption | exact AHeap.set_same _ _ _) | (refine (AHeap.set_other _ _ (by first | assumption | exact (AHeap.fresh_set (by assumption)).1 | exact Ne.symm (AHeap.fresh_set (by assumption)).1 | exact AHeap.ne_of (by assumption) (by assumption) | exact Ne.symm (AHeap.ne_of (by assumption) (by assumption)) | exact (AHeap.fresh_set (AHeap.fresh_set (by assumption)).2).1 | exact Ne.symm (AHeap.fresh_set (AHeap.fresh_set (by assumption)).2).1)).trans ?_; first | assumption | exact AHeap.set_same _ _ _)))) (by rfl) | apply ResAt.cell1 rfl (by first | assumption | exact AHeap.set_same _ _ _ | exact AHeap.get_fresh (by assumption) (by first | assumption | exact AHeap.set_same _ _ _ | exact AHeap.get_fresh (by assumption) (by first | assumption | exact AHeap.set_same _ _ _ | exact AHeap.get_fresh (by assumption) (by first | assumption | exact AHeap.set_same _ _ _) | (refine (AHeap.set_other _ _ (by first | assumption | exact (AHeap.fresh_set (by assumption)).1 | exact Ne.symm (AHeap.fresh_set (by assumption)).1 | exact AHeap.ne_of (by assumption) (by assumption) | exact Ne.symm (AHeap.ne_of (by assumption) (by assumption)) | exact (AHeap.fresh_set (AHeap.fresh_set (by assumption)).2).1 | exact Ne.symm (AHeap.fresh_set (AHeap.fresh_set (by assumption)).2).1)).trans ?_; first | assumption | exact AHeap.set_same _ _ _)) | (refine (AHeap.set_other _ _ (by first | assumption | exact (AHeap.fresh_set (by assumption)).1 | exact Ne.symm (AHeap.fresh_set (by assumption)).1 | exact AHeap.ne_of (by assumption) (by assumption) | exact Ne.symm (AHeap.ne_of (by assumption) (by assumption)) | exact (AHeap.fresh_set (AHeap.fresh_set (by assumption)).2).1 | exact Ne.symm (AHeap.fresh_set (AHeap.fresh_set (by assumption)).2).1)).trans ?_; first | assumption | exact AHeap.set_same _ _ _ | exact AHeap.get_fresh (by assumption) (by first | assumption | exact AHeap.set_same _ _ _) | (refine (AHeap.set_other _ _ (by first | assumption | exact (AHeap.fresh_set (by assumption)).1 | exact Ne.symm (AHeap.fresh_set (by assumption)).1 | exact AHeap.ne_of (by assumption) (by assumption) | exact Ne.symm (AHeap.ne_of (by assumption) (by assumption)) | exact (AHeap.fresh_set (AHeap.fresh_set (by assumption)).2).1 | exact Ne.symm (AHeap.fresh_set (AHeap.fresh_set (by assumption)).2).1)).trans ?_; first | assumption | exact AHeap.set_same _ _ _))) | (refine (AHeap.set_other _ _ (by first | assumption | exact (AHeap.fresh_set (by assumption)).1 | exact Ne.symm (AHeap.fresh_set (by assumption)).1 | exact AHeap.ne_of (by assumption) (by assumption) | exact Ne.symm (AHeap.ne_of (by assumption) (by assumption)) | exact (AHeap.fresh_set (AHeap.fresh_set (by assumption)).2).1 | exact Ne.symm (AHeap.fresh_set (AHeap.fresh_set (by assumption)).2).1)).trans ?_; first | assumption | exact AHeap.set_same _ _ _ | exact AHeap.get_fresh (by assumption) (by first | assumption | exact AHeap.set_same _ _ _ | exact AHeap.get_fresh (by assumption) (by first | assumption | exact AHeap.set_same _ _ _) | (refine (AHeap.set_other _ _ (by first | assumption | exact (AHeap.fresh_set (by assumption)).1 | exact Ne.symm (AHeap.fresh_set (by assumption)).1 | exact AHeap.ne_of (by assumption) (by assumption) | exact Ne.symm (AHeap.ne_of (by assumption) (by assumption)) | exact (AHeap.fresh_set (AHeap.fresh_set (by assumption)).2).1 | exact Ne.symm (AHeap.fresh_set (AHeap.fresh_set (by assumption)).2).1)).trans ?_; first | assumption | exact AHeap.set_same _ _ _)) | (refine (AHeap.set_other _ _ (by first | assumption | exact (AHeap.fresh_set (by assumption)).1 | exact Ne.symm (AHeap.fresh_set (by assumption)).1 | exact AHeap.ne_of (by assumption) (by assumption) | exact Ne.symm (AHeap.ne_of (by assumption) (by assumption)) | exact (AHeap.fresh_set (AHeap.fresh_set (by assumption)).2).1 | exact Ne.symm (AHeap.fresh_set (AHeap.fresh_set (by assumption)).2).1)).trans ?_; first | assumption | exact AHeap.set_same _ _ _ | exact AHeap.get_fresh (by assumption) (by first | assumption | exact AHeap.set_same _ _ _) | (refine (AHeap.set_other _ _ (by first | assumption | exact (AHeap.fresh_set (by assumption)).1 | exact Ne.symm (AHeap.fresh_set (by assumption)).1 | exact AHeap.ne_of (by assumption) (by assumption) | exact Ne.symm (AHeap.ne_of (by assumption) (by assumption)) | exact (AHeap.fresh_set (AHeap.fresh_set (by assumption)).2).1 | exact Ne.symm (AHeap.fresh_set (AHeap.fresh_set (by assumption)).2).1)).trans ?_; first | assumption | exact AHeap.set_same _ _ _)))) (by rfl))
    exact ⟨_, _, .refl _, (by repeat (first | exact AHeap.le.refl _ | refine AHeap.le.set ?_ _ (by first | assumption | exact (AHeap.fresh_set (by assumption)).2 | exact (AHeap.fresh_set (AHeap.fresh_set (by assumption)).2).2 | exact (AHeap.fresh_set (AHeap.fresh_set (AHeap.fresh_set (by assumption)).2).2).2 | exact (AHeap.fresh_set (AHeap.fresh_set (AHeap.fresh_set (AHeap.fresh_set (by assumption)).2).2).2).2) | refine AHeap.le.both ?_ _ _)), rfl, rfl⟩

end Go.Proofs.Ytnmgamcmjjngcaa
