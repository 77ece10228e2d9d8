import Derived.Test.YtnmgamcmjjngcaaM17
set_option linter.unusedVariables false
set_option linter.unusedSimpArgs false
namespace Go.Proofs.Ytnmgamcmjjngcaa
open Go.Av

def r46l1 : RCode :=
  (.seq (.seq (.region [
    ⟨(some 16), none, .act, .mv (.tmp 6)⟩,
    ⟨(some 17), none, .act, .mv (.tmp 3)⟩,
    ⟨(some 18), none, .act, .len (.tmp 17)⟩,
    ⟨(some 19), none, .act, .bin .lss (.tmp 16) (.tmp 18)⟩,
    ⟨(some 20), none, .act, .mv (.tmp 19)⟩,
    ⟨(some 21), (some (20, true)), .act, .mv (.tmp 3)⟩,
    ⟨(some 22), (some (20, true)), .act, .mv (.tmp 6)⟩,
    ⟨(some 23), (some (20, true)), .act, .indexAddr 1 (.tmp 21) (.tmp 22)⟩,
    ⟨(some 24), (some (20, true)), .act, .load false 1 (.tmp 23)⟩,
    ⟨(some 25), (some (20, true)), .act, .mv (.tmp 5)⟩,
    ⟨(some 26), (some (20, true)), .act, .bin .lss (.tmp 24) (.tmp 25)⟩,
    ⟨(some 27), none, .act, .pick (.tmp 20) (.tmp 26) (.const (.bool false))⟩])
  (.cond (.tmp 27)
   .skip
   (.exit 2)))
  (.block 3
   (.region [
     ⟨(some 28), none, .act, .mv (.tmp 6)⟩,
     ⟨(some 29), none, .act, .bin .add (.tmp 28) (.const (.int .i64 1))⟩,
     ⟨(some 6), none, .act, .mv (.tmp 29)⟩])))
def r46l0 : RCode :=
  (.seq (.region [
    ⟨(some 13), none, .act, .bin .lss (.tmp 12) (.tmp 11)⟩])
  (.seq (.cond (.tmp 13)
   .skip
   (.exit 0))
  (.seq (.block 1
   (.seq (.region [
     ⟨(some 14), none, .act, .indexAddr 1 (.tmp 10) (.tmp 12)⟩,
     ⟨(some 15), none, .act, .load false 1 (.tmp 14)⟩,
     ⟨(some 5), none, .act, .mv (.tmp 15)⟩])
   (.seq (.region [
     ⟨(some 6), none, .act, .mv (.const (.int .i64 0))⟩])
   (.seq (.block 2
    (.loop r46l1))
   (.seq (.seq (.region [
     ⟨(some 30), none, .act, .mv (.tmp 6)⟩,
     ⟨(some 31), none, .act, .mv (.tmp 3)⟩,
     ⟨(some 32), none, .act, .len (.tmp 31)⟩,
     ⟨(some 33), none, .act, .bin .lss (.tmp 30) (.tmp 32)⟩,
     ⟨(some 34), none, .act, .mv (.tmp 33)⟩,
     ⟨(some 35), (some (34, true)), .act, .mv (.tmp 3)⟩,
     ⟨(some 36), (some (34, true)), .act, .mv (.tmp 6)⟩,
     ⟨(some 37), (some (34, true)), .act, .indexAddr 1 (.tmp 35) (.tmp 36)⟩,
     ⟨(some 38), (some (34, true)), .act, .load false 1 (.tmp 37)⟩,
     ⟨(some 39), (some (34, true)), .act, .mv (.tmp 5)⟩,
     ⟨(some 40), (some (34, true)), .act, .eq false .int (.tmp 38) (.tmp 39)⟩,
     ⟨(some 41), none, .act, .pick (.tmp 34) (.tmp 40) (.const (.bool false))⟩])
   (.cond (.tmp 41)
    (.exit 1)
    .skip))
   (.region [
     ⟨(some 42), none, .pure, .mv (.tmp 3)⟩,
     ⟨(some 43), none, .pure, .mv (.tmp 6)⟩,
     ⟨(some 44), none, .pure, .mv (.tmp 6)⟩,
     ⟨(some 45), none, .pure, .sliceSl 1 (.tmp 42) none (some (.tmp 43)) (some (.tmp 44))⟩,
     ⟨(some 46), none, .pure, .mv (.tmp 5)⟩,
     ⟨(some 47), none, .pure, .buildSl 1 [(.int .u64 0)] 1 [(0, (.tmp 46))]⟩,
     ⟨(some 48), none, .pure, .mv (.tmp 3)⟩,
     ⟨(some 49), none, .pure, .mv (.tmp 6)⟩,
     ⟨(some 50), none, .pure, .sliceSl 1 (.tmp 48) (some (.tmp 49)) none none⟩,
     ⟨(some 51), none, .act, .append 1 8 [(.int .u64 0)] (.tmp 47) (.tmp 50)⟩,
     ⟨(some 52), none, .act, .append 1 8 [(.int .u64 0)] (.tmp 45) (.tmp 51)⟩,
     ⟨(some 3), none, .pure, .mv (.tmp 52)⟩]))))))
  (.region [
    ⟨(some 53), none, .act, .bin .add (.tmp 12) (.const (.int .i64 1))⟩,
    ⟨(some 12), none, .act, .mv (.tmp 53)⟩]))))
def r46l2 : RCode :=
  (.seq (.region [
    ⟨(some 66), none, .act, .bin .lss (.tmp 65) (.tmp 64)⟩])
  (.seq (.cond (.tmp 66)
   .skip
   (.exit 4))
  (.seq (.block 5
   (.seq (.region [
     ⟨(some 67), none, .act, .indexAddr 1 (.tmp 63) (.tmp 65)⟩,
     ⟨(some 68), none, .act, .load false 1 (.tmp 67)⟩,
     ⟨(some 9), none, .act, .mv (.tmp 68)⟩])
   (.region [
     ⟨(some 69), none, .act, .mv (.tmp 7)⟩,
     ⟨(some 70), none, .act, .mv (.tmp 9)⟩,
     ⟨(some 71), none, .act, .call 80 [(.tmp 69), (.tmp 70)]⟩,
     ⟨(some 7), none, .act, .mv (.tmp 71)⟩])))
  (.region [
    ⟨(some 72), none, .act, .bin .add (.tmp 65) (.const (.int .i64 1))⟩,
    ⟨(some 65), none, .act, .mv (.tmp 72)⟩]))))
/-- plenum/plenumref06.PutMembers -/
def r46 : RCode :=
  (.seq (.region [
    ⟨(some 2), none, .act, .mv (.const (.slice none 0 0))⟩])
  (.seq (.region [
    ⟨(some 3), none, .act, .mv (.const (.slice none 0 0))⟩])
  (.seq (.seq (.region [
    ⟨(some 10), none, .act, .mv (.tmp 0)⟩,
    ⟨(some 11), none, .act, .len (.tmp 10)⟩,
    ⟨(some 12), none, .act, .mv (.const (.int .i64 0))⟩])
  (.block 0
   (.loop r46l0)))
  (.seq (.seq (.region [
    ⟨(some 54), none, .act, .mv (.tmp 3)⟩,
    ⟨(some 55), none, .act, .len (.tmp 54)⟩,
    ⟨(some 56), none, .act, .bin .gtr (.tmp 55) (.const (.int .i64 9))⟩])
  (.cond (.tmp 56)
   (.region [
     ⟨(some 57), none, .act, .mv (.tmp 3)⟩,
     ⟨(some 58), none, .act, .sliceSl 1 (.tmp 57) none (some (.const (.int .i64 9))) none⟩,
     ⟨(some 3), none, .act, .mv (.tmp 58)⟩])
   .skip))
  (.seq (.region [
    ⟨(some 59), none, .act, .mv (.tmp 3)⟩,
    ⟨(some 60), none, .act, .len (.tmp 59)⟩,
    ⟨(some 61), none, .act, .convInt .u64 (.tmp 60)⟩,
    ⟨(some 62), none, .act, .call 80 [(.const (.slice none 0 0)), (.tmp 61)]⟩,
    ⟨(some 7), none, .act, .mv (.tmp 62)⟩])
  (.seq (.seq (.region [
    ⟨(some 63), none, .act, .mv (.tmp 3)⟩,
    ⟨(some 64), none, .act, .len (.tmp 63)⟩,
    ⟨(some 65), none, .act, .mv (.const (.int .i64 0))⟩])
  (.block 4
   (.loop r46l2)))
  (.seq (.region [
    ⟨(some 73), none, .act, .mv (.tmp 7)⟩,
    ⟨(some 2), none, .act, .mv (.tmp 73)⟩])
  .ret)))))))
theorem res46 : ∃ c, Try.f46.body = some c ∧ resCode Try.prog 74 c = some r46 := ⟨_, rfl, by kernel_rfl⟩
theorem rr46 : resRes Try.prog Try.f46.results.toList = some [.tmp 2] := by kernel_rfl

theorem rm_inner (out : List UInt64) (ho : out.length ≤ 1000) (m : UInt64) (x10 x11 x12 : AV) (h : AHeap) (k : List RT) (Q : AV → AHeap → Prop)
    (hk : ∀ j, j ≤ out.length → (∀ i y, i < j → out[i]? = some y → y < m) → (∀ y, out[j]? = some y → ¬ y < m) → RRun Try.prog Try.f46 74 k (Env.get [(3, u64s out), (5, enc m), (6, i64 j), (10, x10), (11, x11), (12, x12)]) h Q) : ∀ (n j : Nat), j + n = out.length → (∀ i y, i < j → out[i]? = some y → y < m) →
    RRun Try.prog Try.f46 74 (.inLoop r46l1 :: .inBlock 2 :: k) (Env.get [(3, u64s out), (5, enc m), (6, i64 j), (10, x10), (11, x11), (12, x12)]) h Q := by
  have hla : (out.map fun x => [Go.Av.u64 x]).length = out.length := by simp
  intro n
  induction n with
  | zero =>
    intro j hj hall
    have := hk j (by omega) hall (fun y hy => by rw [List.getElem?_eq_none (by omega)] at hy; cases hy)
    refine RRun.inLoop ?_
    repeat' (first | refine S.nilK ?_ | (refine S.op rfl ?_; first | refine R.mv rfl ?_ | refine R.loadR rfl rfl ?_ | refine R.load (by decide) rfl (by (repeat' (first | assumption | exact AHeap.set_same _ _ _ | refine AHeap.get_fresh ‹_› ?_ | refine AHeap.so ?_ ?_ | exact AHeap.n1 ‹_› | exact AHeap.n2 ‹_› | exact AHeap.ne_of ‹_› ‹_› | exact AHeap.n4 ‹_› ‹_› | exact AHeap.n5 ‹_› | exact AHeap.n6 ‹_› | exact AHeap.n7 ‹_› ‹_› | exact AHeap.n8 ‹_› ‹_›)); first | done | fail) rfl ?_ | refine S.addI rfl rfl (by omega) ?_ | refine S.addU rfl rfl ?_ | refine S.addUc rfl (by decide) ?_ | refine R.pickT rfl rfl ?_ | refine R.pickF rfl rfl ?_ | refine R.len rfl ?_ | refine R.lenA rfl ?_ | refine R.lenStr rfl ?_ | refine S.convIU rfl (by omega) ?_ | refine S.convUI rfl (by omega) ?_ | refine R.convInt rfl ?_ | refine R.eqPtrNil rfl rfl ?_ | refine R.buildSl rfl rfl rfl (by decide) ?_ | ((first | refine S.lss rfl rfl ?_ ?_ | refine S.gtr rfl rfl ?_ ?_ | refine S.eqInt rfl rfl ?_ ?_) <;> intro hlt <;> try (exfalso; omega))) | refine S.skip rfl ?_ | refine S.skip0 rfl ?_ | refine S.seq ?_ | refine S.region ?_ | refine S.condT rfl ?_ | refine S.condF rfl ?_ | refine RRun.skip ?_ | refine RRun.block ?_ | refine RRun.inBlock ?_ | refine RRun.exit rfl ?_)
    exact S.keep [3, 5, 6, 10, 11, 12] rfl this
  | succ n ih =>
    intro j hj hall
    obtain ⟨y, hy⟩ : ∃ y, out[j]? = some y := ⟨_, List.getElem?_eq_getElem (by omega)⟩
    have hga : (out.map fun x => [enc x])[((j : Nat) : Int).toNat]? = some [enc y] := by simp only [Int.toNat_natCast, List.getElem?_map, hy]; rfl
    by_cases hym : y < m
    · have hlt' := UInt64.lt_iff_toNat_lt.1 hym
      refine RRun.inLoop ?_
      repeat' (first | refine S.nilK ?_ | (refine S.op rfl ?_; first | refine R.indexAddr (cc := .ro) (es := out.map fun x => [enc x]) rfl rfl (by omega) hga ?_ | refine R.mv rfl ?_ | refine R.loadR rfl rfl ?_ | refine R.load (by decide) rfl (by (repeat' (first | assumption | exact AHeap.set_same _ _ _ | refine AHeap.get_fresh ‹_› ?_ | refine AHeap.so ?_ ?_ | exact AHeap.n1 ‹_› | exact AHeap.n2 ‹_› | exact AHeap.ne_of ‹_› ‹_› | exact AHeap.n4 ‹_› ‹_› | exact AHeap.n5 ‹_› | exact AHeap.n6 ‹_› | exact AHeap.n7 ‹_› ‹_› | exact AHeap.n8 ‹_› ‹_›)); first | done | fail) rfl ?_ | refine S.addI rfl rfl (by omega) ?_ | refine S.addU rfl rfl ?_ | refine S.addUc rfl (by decide) ?_ | refine R.pickT rfl rfl ?_ | refine R.pickF rfl rfl ?_ | refine R.len rfl ?_ | refine R.lenA rfl ?_ | refine R.lenStr rfl ?_ | refine S.convIU rfl (by omega) ?_ | refine S.convUI rfl (by omega) ?_ | refine R.convInt rfl ?_ | refine R.eqPtrNil rfl rfl ?_ | refine R.buildSl rfl rfl rfl (by decide) ?_ | ((first | refine S.lss rfl rfl ?_ ?_ | refine S.gtr rfl rfl ?_ ?_ | refine S.eqInt rfl rfl ?_ ?_) <;> intro hlt <;> try (exfalso; omega))) | refine S.skip rfl ?_ | refine S.skip0 rfl ?_ | refine S.seq ?_ | refine S.region ?_ | refine S.condT rfl ?_ | refine S.condF rfl ?_ | refine RRun.skip ?_ | refine RRun.block ?_ | refine RRun.inBlock ?_ | refine RRun.exit rfl ?_)
      rw [show ((j : Int) + 1) = ((j + 1 : Nat) : Int) by omega]
      refine S.keep [3, 5, 6, 10, 11, 12] rfl (ih (j + 1) (by omega) (fun i z hi hz => ?_))
      rcases Nat.lt_succ_iff_lt_or_eq.1 hi with e | e
      · exact hall i z e hz
      · subst e; rw [hy] at hz; cases hz; exact hym
    · have hlt' : ¬ y.toNat < m.toNat := fun e => hym (UInt64.lt_iff_toNat_lt.2 e)
      have := hk j (by omega) hall (fun z hz => by rw [hy] at hz; cases hz; exact hym)
      refine RRun.inLoop ?_
      repeat' (first | refine S.nilK ?_ | (refine S.op rfl ?_; first | refine R.indexAddr (cc := .ro) (es := out.map fun x => [enc x]) rfl rfl (by omega) hga ?_ | refine R.mv rfl ?_ | refine R.loadR rfl rfl ?_ | refine R.load (by decide) rfl (by (repeat' (first | assumption | exact AHeap.set_same _ _ _ | refine AHeap.get_fresh ‹_› ?_ | refine AHeap.so ?_ ?_ | exact AHeap.n1 ‹_› | exact AHeap.n2 ‹_› | exact AHeap.ne_of ‹_› ‹_› | exact AHeap.n4 ‹_› ‹_› | exact AHeap.n5 ‹_› | exact AHeap.n6 ‹_› | exact AHeap.n7 ‹_› ‹_› | exact AHeap.n8 ‹_› ‹_›)); first | done | fail) rfl ?_ | refine S.addI rfl rfl (by omega) ?_ | refine S.addU rfl rfl ?_ | refine S.addUc rfl (by decide) ?_ | refine R.pickT rfl rfl ?_ | refine R.pickF rfl rfl ?_ | refine R.len rfl ?_ | refine R.lenA rfl ?_ | refine R.lenStr rfl ?_ | refine S.convIU rfl (by omega) ?_ | refine S.convUI rfl (by omega) ?_ | refine R.convInt rfl ?_ | refine R.eqPtrNil rfl rfl ?_ | refine R.buildSl rfl rfl rfl (by decide) ?_ | ((first | refine S.lss rfl rfl ?_ ?_ | refine S.gtr rfl rfl ?_ ?_ | refine S.eqInt rfl rfl ?_ ?_) <;> intro hlt <;> try (exfalso; omega))) | refine S.skip rfl ?_ | refine S.skip0 rfl ?_ | refine S.seq ?_ | refine S.region ?_ | refine S.condT rfl ?_ | refine S.condF rfl ?_ | refine RRun.skip ?_ | refine RRun.block ?_ | refine RRun.inBlock ?_ | refine RRun.exit rfl ?_)
      exact S.keep [3, 5, 6, 10, 11, 12] rfl this

theorem one_nums (l : List UInt64) : ∀ e ∈ (l.map fun x => [enc x]), ∀ a ∈ e, a.one = true := by
  intro e he a ha
  simp only [List.mem_map] at he
  obtain ⟨u, _, rfl⟩ := he
  simp only [List.mem_singleton] at ha
  subst ha; rfl

theorem rm_outer (l : List UInt64) (hl : l.length ≤ 100) (h₀ : AHeap) (k : List RT) (Q : AV → AHeap → Prop)
    (hk : ∀ h, h₀.le h → RRun Try.prog Try.f46 74 k (Env.get [(3, u64s (dd (srt l)))]) h Q) : ∀ (n j : Nat) (out : List UInt64) (h : AHeap), j + n = l.length → Rise out → out.length ≤ j → (∀ x, x ∈ out ↔ x ∈ l.take j) → h₀.le h →
    RRun Try.prog Try.f46 74 (.inLoop r46l0 :: .inBlock 0 :: k) (Env.get [(3, u64s out), (10, u64s l), (11, i64 l.length), (12, i64 j)]) h Q := by
  have hla : (l.map fun x => [enc x]).length = l.length := by simp
  intro n
  induction n with
  | zero =>
    intro j out h hj hr ho hm hle
    rw [List.take_of_length_le (by omega)] at hm
    rw [rise_ds hr hm]
    refine RRun.inLoop ?_
    repeat' (first | refine S.nilK ?_ | (refine S.op rfl ?_; first | refine R.mv rfl ?_ | refine R.loadR rfl rfl ?_ | refine R.load (by decide) rfl (by (repeat' (first | assumption | exact AHeap.set_same _ _ _ | refine AHeap.get_fresh ‹_› ?_ | refine AHeap.so ?_ ?_ | exact AHeap.n1 ‹_› | exact AHeap.n2 ‹_› | exact AHeap.ne_of ‹_› ‹_› | exact AHeap.n4 ‹_› ‹_› | exact AHeap.n5 ‹_› | exact AHeap.n6 ‹_› | exact AHeap.n7 ‹_› ‹_› | exact AHeap.n8 ‹_› ‹_›)); first | done | fail) rfl ?_ | refine S.addI rfl rfl (by omega) ?_ | refine S.addU rfl rfl ?_ | refine S.addUc rfl (by decide) ?_ | refine R.pickT rfl rfl ?_ | refine R.pickF rfl rfl ?_ | refine R.len rfl ?_ | refine R.lenA rfl ?_ | refine R.lenStr rfl ?_ | refine S.convIU rfl (by omega) ?_ | refine S.convUI rfl (by omega) ?_ | refine R.convInt rfl ?_ | refine R.eqPtrNil rfl rfl ?_ | refine R.buildSl rfl rfl rfl (by decide) ?_ | ((first | refine S.lss rfl rfl ?_ ?_ | refine S.gtr rfl rfl ?_ ?_ | refine S.eqInt rfl rfl ?_ ?_) <;> intro hlt <;> try (exfalso; omega))) | refine S.skip rfl ?_ | refine S.skip0 rfl ?_ | refine S.seq ?_ | refine S.region ?_ | refine S.condT rfl ?_ | refine S.condF rfl ?_ | refine RRun.skip ?_ | refine RRun.block ?_ | refine RRun.inBlock ?_ | refine RRun.exit rfl ?_)
    exact S.keep [3] rfl (hk h hle)
  | succ n ih =>
    intro j out h hj hr ho hm hle
    obtain ⟨m, hmj⟩ : ∃ m, l[j]? = some m := ⟨_, List.getElem?_eq_getElem (by omega)⟩
    have hga : (l.map fun x => [enc x])[((j : Nat) : Int).toNat]? = some [enc m] := by simp only [Int.toNat_natCast, List.getElem?_map, hmj]; rfl
    have htk : l.take (j + 1) = l.take j ++ [m] := by rw [List.take_add_one, hmj]; rfl
    have hlo : (out.map fun x => [Go.Av.u64 x]).length = out.length := by simp
    refine RRun.inLoop ?_
    repeat' (first | refine S.nilK ?_ | (refine S.op rfl ?_; first | refine R.indexAddr (cc := .ro) (es := l.map fun x => [enc x]) rfl rfl (by omega) hga ?_ | refine R.mv rfl ?_ | refine R.loadR rfl rfl ?_ | refine R.load (by decide) rfl (by (repeat' (first | assumption | exact AHeap.set_same _ _ _ | refine AHeap.get_fresh ‹_› ?_ | refine AHeap.so ?_ ?_ | exact AHeap.n1 ‹_› | exact AHeap.n2 ‹_› | exact AHeap.ne_of ‹_› ‹_› | exact AHeap.n4 ‹_› ‹_› | exact AHeap.n5 ‹_› | exact AHeap.n6 ‹_› | exact AHeap.n7 ‹_› ‹_› | exact AHeap.n8 ‹_› ‹_›)); first | done | fail) rfl ?_ | refine S.addI rfl rfl (by omega) ?_ | refine S.addU rfl rfl ?_ | refine S.addUc rfl (by decide) ?_ | refine R.pickT rfl rfl ?_ | refine R.pickF rfl rfl ?_ | refine R.len rfl ?_ | refine R.lenA rfl ?_ | refine R.lenStr rfl ?_ | refine S.convIU rfl (by omega) ?_ | refine S.convUI rfl (by omega) ?_ | refine R.convInt rfl ?_ | refine R.eqPtrNil rfl rfl ?_ | refine R.buildSl rfl rfl rfl (by decide) ?_ | ((first | refine S.lss rfl rfl ?_ ?_ | refine S.gtr rfl rfl ?_ ?_ | refine S.eqInt rfl rfl ?_ ?_) <;> intro hlt <;> try (exfalso; omega))) | refine S.skip rfl ?_ | refine S.skip0 rfl ?_ | refine S.seq ?_ | refine S.region ?_ | refine S.condT rfl ?_ | refine S.condF rfl ?_ | refine RRun.skip ?_ | refine RRun.block ?_ | refine RRun.inBlock ?_ | refine RRun.exit rfl ?_)
    refine RRun.loopIn (S.keep [3, 5, 6, 10, 11, 12] (l' := [(3, u64s out), (5, enc m), (6, i64 (0 : Nat)), (10, u64s l), (11, i64 l.length), (12, i64 j)]) rfl (rm_inner out (by omega) m _ _ _ h _ _ (fun q hq1 hq2 hq3 => ?_) out.length 0 (by omega) (fun i y hi => by omega)))
    by_cases hin : out[q]? = some m
    · have hql : q < out.length := (List.getElem?_eq_some_iff.1 hin).1
      have hgo : (out.map fun x => [enc x])[((q : Nat) : Int).toNat]? = some [enc m] := by simp only [Int.toNat_natCast, List.getElem?_map, hin]; rfl
      have ih' := ih (j + 1) out h (by omega) hr (by omega) (fun x => by
        rw [htk, List.mem_append, List.mem_singleton, ← hm]
        constructor
        · exact .inl
        · rintro (e | rfl)
          · exact e
          · exact List.mem_of_getElem? hin) hle
      repeat' (first | refine S.nilK ?_ | (refine S.op rfl ?_; first | refine R.indexAddr (cc := .ro) (es := out.map fun x => [enc x]) rfl rfl (by omega) hgo ?_ | refine S.eqIntSame rfl rfl ?_ | refine R.mv rfl ?_ | refine R.loadR rfl rfl ?_ | refine R.load (by decide) rfl (by (repeat' (first | assumption | exact AHeap.set_same _ _ _ | refine AHeap.get_fresh ‹_› ?_ | refine AHeap.so ?_ ?_ | exact AHeap.n1 ‹_› | exact AHeap.n2 ‹_› | exact AHeap.ne_of ‹_› ‹_› | exact AHeap.n4 ‹_› ‹_› | exact AHeap.n5 ‹_› | exact AHeap.n6 ‹_› | exact AHeap.n7 ‹_› ‹_› | exact AHeap.n8 ‹_› ‹_›)); first | done | fail) rfl ?_ | refine S.addI rfl rfl (by omega) ?_ | refine S.addU rfl rfl ?_ | refine S.addUc rfl (by decide) ?_ | refine R.pickT rfl rfl ?_ | refine R.pickF rfl rfl ?_ | refine R.len rfl ?_ | refine R.lenA rfl ?_ | refine R.lenStr rfl ?_ | refine S.convIU rfl (by omega) ?_ | refine S.convUI rfl (by omega) ?_ | refine R.convInt rfl ?_ | refine R.eqPtrNil rfl rfl ?_ | refine R.buildSl rfl rfl rfl (by decide) ?_ | ((first | refine S.lss rfl rfl ?_ ?_ | refine S.gtr rfl rfl ?_ ?_ | refine S.eqInt rfl rfl ?_ ?_) <;> intro hlt <;> try (exfalso; omega))) | refine S.skip rfl ?_ | refine S.skip0 rfl ?_ | refine S.seq ?_ | refine S.region ?_ | refine S.condT rfl ?_ | refine S.condF rfl ?_ | refine RRun.skip ?_ | refine RRun.block ?_ | refine RRun.inBlock ?_ | refine RRun.exit rfl ?_)
      rw [show ((j : Int) + 1) = ((j + 1 : Nat) : Int) by omega]
      exact S.keep [3, 10, 11, 12] rfl ih'
    · have hr' := rise_put hr hq1 hq2 hq3 hin
      have hstep : ∀ h', h₀.le h' → RRun Try.prog Try.f46 74 (.inLoop r46l0 :: .inBlock 0 :: k) (Env.get [(3, u64s (out.take q ++ ([m] ++ out.drop q))), (10, u64s l), (11, i64 l.length), (12, i64 (j + 1 : Nat))]) h' Q := fun h' hle' =>
        ih (j + 1) _ h' (by omega) hr' (by simp; omega) (fun x => by
          have hx1 : x ∈ List.take j l ++ [m] ↔ x ∈ out ∨ x = m := by rw [List.mem_append, List.mem_singleton, ← hm]
          rw [htk, hx1]
          have htd : x ∈ out ↔ x ∈ out.take q ∨ x ∈ out.drop q := by rw [← List.mem_append, List.take_append_drop]
          rw [htd]
          simp only [List.mem_append, List.mem_singleton]
          constructor
          · rintro (e | e | e)
            · exact .inl (.inl e)
            · exact .inr e
            · exact .inl (.inr e)
          · rintro ((e | e) | e)
            · exact .inl e
            · exact .inr (.inr e)
            · exact .inr (.inl e)) hle'
      by_cases hql : q < out.length
      · obtain ⟨y, hy⟩ : ∃ y, out[q]? = some y := ⟨_, List.getElem?_eq_getElem hql⟩
        have hgo : (out.map fun x => [enc x])[((q : Nat) : Int).toNat]? = some [enc y] := by simp only [Int.toNat_natCast, List.getElem?_map, hy]; rfl
        have hne : y.toNat ≠ m.toNat := fun e => hin (by rw [hy, UInt64.toNat_inj.1 e])
        repeat' (first | refine S.nilK ?_ | (refine S.op rfl ?_; first | refine R.indexAddr (cc := .ro) (es := out.map fun x => [enc x]) rfl rfl (by omega) hgo ?_ | refine S.sliceHM rfl rfl rfl (by omega) (by rw [hlo]; omega) (by decide) ?_ | refine S.sliceL rfl rfl (by omega) (by rw [hlo]; omega) (by decide) ?_ | refine R.mv rfl ?_ | refine R.loadR rfl rfl ?_ | refine R.load (by decide) rfl (by (repeat' (first | assumption | exact AHeap.set_same _ _ _ | refine AHeap.get_fresh ‹_› ?_ | refine AHeap.so ?_ ?_ | exact AHeap.n1 ‹_› | exact AHeap.n2 ‹_› | exact AHeap.ne_of ‹_› ‹_› | exact AHeap.n4 ‹_› ‹_› | exact AHeap.n5 ‹_› | exact AHeap.n6 ‹_› | exact AHeap.n7 ‹_› ‹_› | exact AHeap.n8 ‹_› ‹_›)); first | done | fail) rfl ?_ | refine S.addI rfl rfl (by omega) ?_ | refine S.addU rfl rfl ?_ | refine S.addUc rfl (by decide) ?_ | refine R.pickT rfl rfl ?_ | refine R.pickF rfl rfl ?_ | refine R.len rfl ?_ | refine R.lenA rfl ?_ | refine R.lenStr rfl ?_ | refine S.convIU rfl (by omega) ?_ | refine S.convUI rfl (by omega) ?_ | refine R.convInt rfl ?_ | refine R.eqPtrNil rfl rfl ?_ | refine R.buildSl rfl rfl rfl (by decide) ?_ | ((first | refine S.lss rfl rfl ?_ ?_ | refine S.gtr rfl rfl ?_ ?_ | refine S.eqInt rfl rfl ?_ ?_) <;> intro hlt <;> try (exfalso; omega))) | refine S.skip rfl ?_ | refine S.skip0 rfl ?_ | refine S.seq ?_ | refine S.region ?_ | refine S.condT rfl ?_ | refine S.condF rfl ?_ | refine RRun.skip ?_ | refine RRun.block ?_ | refine RRun.inBlock ?_ | refine RRun.exit rfl ?_)
        refine S.op rfl (S.appendG (h₀ := h₀) (c0 := .full) (xs := [[enc m]]) (ys := ((out.map fun x => [enc x]).drop q)) rfl (.of_le hle) rfl (.sl _ _) rfl ?_ ?_ ?_ ?_ (fun c1 h1 g1 _ => ?_))
        · exact Go.Av.Src.sl _ _
        · exact fun e he => one_nums out e (List.mem_of_mem_drop he)
        · simp; omega
        · simp; omega
        refine S.op rfl (S.appendG (h₀ := h₀) (c0 := .full) (xs := ((out.map fun x => [enc x]).take q)) (ys := [[enc m]] ++ ((out.map fun x => [enc x]).drop q)) rfl (.of_le g1.le) rfl ?_ rfl (.sl _ _) ?_ ?_ ?_ (fun c2 h2 g2 _ => ?_))
        · exact Go.Av.Dst.sl _ _
        · intro e he
          rcases List.mem_append.1 he with he | he
          · exact one_nums [m] e (by simpa using he)
          · exact one_nums out e (List.mem_of_mem_drop he)
        · simp; omega
        · simp; omega
        repeat' (first | refine S.nilK ?_ | (refine S.op rfl ?_; first | refine R.mv rfl ?_ | refine R.loadR rfl rfl ?_ | refine R.load (by decide) rfl (by (repeat' (first | assumption | exact AHeap.set_same _ _ _ | refine AHeap.get_fresh ‹_› ?_ | refine AHeap.so ?_ ?_ | exact AHeap.n1 ‹_› | exact AHeap.n2 ‹_› | exact AHeap.ne_of ‹_› ‹_› | exact AHeap.n4 ‹_› ‹_› | exact AHeap.n5 ‹_› | exact AHeap.n6 ‹_› | exact AHeap.n7 ‹_› ‹_› | exact AHeap.n8 ‹_› ‹_›)); first | done | fail) rfl ?_ | refine S.addI rfl rfl (by omega) ?_ | refine S.addU rfl rfl ?_ | refine S.addUc rfl (by decide) ?_ | refine R.pickT rfl rfl ?_ | refine R.pickF rfl rfl ?_ | refine R.len rfl ?_ | refine R.lenA rfl ?_ | refine R.lenStr rfl ?_ | refine S.convIU rfl (by omega) ?_ | refine S.convUI rfl (by omega) ?_ | refine R.convInt rfl ?_ | refine R.eqPtrNil rfl rfl ?_ | refine R.buildSl rfl rfl rfl (by decide) ?_ | ((first | refine S.lss rfl rfl ?_ ?_ | refine S.gtr rfl rfl ?_ ?_ | refine S.eqInt rfl rfl ?_ ?_) <;> intro hlt <;> try (exfalso; omega))) | refine S.skip rfl ?_ | refine S.skip0 rfl ?_ | refine S.seq ?_ | refine S.region ?_ | refine S.condT rfl ?_ | refine S.condF rfl ?_ | refine RRun.skip ?_ | refine RRun.block ?_ | refine RRun.inBlock ?_ | refine RRun.exit rfl ?_)
        have e3 : (out.map fun x => [enc x]).take q ++ ([[enc m]] ++ (out.map fun x => [enc x]).drop q) = (out.take q ++ ([m] ++ out.drop q)).map fun x => [enc x] := by simp
        rw [e3, show ((j : Int) + 1) = ((j + 1 : Nat) : Int) by omega]
        exact S.keep [3, 10, 11, 12] rfl (RRun.envs (.cons 3 (.toRo 1 ((out.take q ++ ([m] ++ out.drop q)).map fun x => [enc x]) c2) (.cons 10 (.refl _) (.cons 11 (.refl _) (.cons 12 (.refl _) .nil)))) (hstep h2 g2.le))
      ·
        repeat' (first | refine S.nilK ?_ | (refine S.op rfl ?_; first | refine S.sliceHM rfl rfl rfl (by omega) (by rw [hlo]; omega) (by decide) ?_ | refine S.sliceL rfl rfl (by omega) (by rw [hlo]; omega) (by decide) ?_ | refine R.mv rfl ?_ | refine R.loadR rfl rfl ?_ | refine R.load (by decide) rfl (by (repeat' (first | assumption | exact AHeap.set_same _ _ _ | refine AHeap.get_fresh ‹_› ?_ | refine AHeap.so ?_ ?_ | exact AHeap.n1 ‹_› | exact AHeap.n2 ‹_› | exact AHeap.ne_of ‹_› ‹_› | exact AHeap.n4 ‹_› ‹_› | exact AHeap.n5 ‹_› | exact AHeap.n6 ‹_› | exact AHeap.n7 ‹_› ‹_› | exact AHeap.n8 ‹_› ‹_›)); first | done | fail) rfl ?_ | refine S.addI rfl rfl (by omega) ?_ | refine S.addU rfl rfl ?_ | refine S.addUc rfl (by decide) ?_ | refine R.pickT rfl rfl ?_ | refine R.pickF rfl rfl ?_ | refine R.len rfl ?_ | refine R.lenA rfl ?_ | refine R.lenStr rfl ?_ | refine S.convIU rfl (by omega) ?_ | refine S.convUI rfl (by omega) ?_ | refine R.convInt rfl ?_ | refine R.eqPtrNil rfl rfl ?_ | refine R.buildSl rfl rfl rfl (by decide) ?_ | ((first | refine S.lss rfl rfl ?_ ?_ | refine S.gtr rfl rfl ?_ ?_ | refine S.eqInt rfl rfl ?_ ?_) <;> intro hlt <;> try (exfalso; omega))) | refine S.skip rfl ?_ | refine S.skip0 rfl ?_ | refine S.seq ?_ | refine S.region ?_ | refine S.condT rfl ?_ | refine S.condF rfl ?_ | refine RRun.skip ?_ | refine RRun.block ?_ | refine RRun.inBlock ?_ | refine RRun.exit rfl ?_)
        refine S.op rfl (S.appendG (h₀ := h₀) (c0 := .full) (xs := [[enc m]]) (ys := ((out.map fun x => [enc x]).drop q)) rfl (.of_le hle) rfl (.sl _ _) rfl ?_ ?_ ?_ ?_ (fun c1 h1 g1 _ => ?_))
        · exact Go.Av.Src.sl _ _
        · exact fun e he => one_nums out e (List.mem_of_mem_drop he)
        · simp; omega
        · simp; omega
        refine S.op rfl (S.appendG (h₀ := h₀) (c0 := .full) (xs := ((out.map fun x => [enc x]).take q)) (ys := [[enc m]] ++ ((out.map fun x => [enc x]).drop q)) rfl (.of_le g1.le) rfl ?_ rfl (.sl _ _) ?_ ?_ ?_ (fun c2 h2 g2 _ => ?_))
        · exact Go.Av.Dst.sl _ _
        · intro e he
          rcases List.mem_append.1 he with he | he
          · exact one_nums [m] e (by simpa using he)
          · exact one_nums out e (List.mem_of_mem_drop he)
        · simp; omega
        · simp; omega
        repeat' (first | refine S.nilK ?_ | (refine S.op rfl ?_; first | refine R.mv rfl ?_ | refine R.loadR rfl rfl ?_ | refine R.load (by decide) rfl (by (repeat' (first | assumption | exact AHeap.set_same _ _ _ | refine AHeap.get_fresh ‹_› ?_ | refine AHeap.so ?_ ?_ | exact AHeap.n1 ‹_› | exact AHeap.n2 ‹_› | exact AHeap.ne_of ‹_› ‹_› | exact AHeap.n4 ‹_› ‹_› | exact AHeap.n5 ‹_› | exact AHeap.n6 ‹_› | exact AHeap.n7 ‹_› ‹_› | exact AHeap.n8 ‹_› ‹_›)); first | done | fail) rfl ?_ | refine S.addI rfl rfl (by omega) ?_ | refine S.addU rfl rfl ?_ | refine S.addUc rfl (by decide) ?_ | refine R.pickT rfl rfl ?_ | refine R.pickF rfl rfl ?_ | refine R.len rfl ?_ | refine R.lenA rfl ?_ | refine R.lenStr rfl ?_ | refine S.convIU rfl (by omega) ?_ | refine S.convUI rfl (by omega) ?_ | refine R.convInt rfl ?_ | refine R.eqPtrNil rfl rfl ?_ | refine R.buildSl rfl rfl rfl (by decide) ?_ | ((first | refine S.lss rfl rfl ?_ ?_ | refine S.gtr rfl rfl ?_ ?_ | refine S.eqInt rfl rfl ?_ ?_) <;> intro hlt <;> try (exfalso; omega))) | refine S.skip rfl ?_ | refine S.skip0 rfl ?_ | refine S.seq ?_ | refine S.region ?_ | refine S.condT rfl ?_ | refine S.condF rfl ?_ | refine RRun.skip ?_ | refine RRun.block ?_ | refine RRun.inBlock ?_ | refine RRun.exit rfl ?_)
        have e3 : (out.map fun x => [enc x]).take q ++ ([[enc m]] ++ (out.map fun x => [enc x]).drop q) = (out.take q ++ ([m] ++ out.drop q)).map fun x => [enc x] := by simp
        rw [e3, show ((j : Int) + 1) = ((j + 1 : Nat) : Int) by omega]
        exact S.keep [3, 10, 11, 12] rfl (RRun.envs (.cons 3 (.toRo 1 ((out.take q ++ ([m] ++ out.drop q)).map fun x => [enc x]) c2) (.cons 10 (.refl _) (.cons 11 (.refl _) (.cons 12 (.refl _) .nil)))) (hstep h2 g2.le))

theorem rm_bytes (l : List UInt64) (hl : l.length ≤ 100) (h : AHeap) (k : List RT) (Q : AV → AHeap → Prop) (b0 : List UInt8) (hb0 : b0.length ≤ 100)
    (hk : RRun Try.prog Try.f46 74 k (Env.get [(7, bysC (b0 ++ putNs l) .ro)]) h Q) : ∀ (n j : Nat), j + n = l.length →
    RRun Try.prog Try.f46 74 (.inLoop r46l2 :: .inBlock 4 :: k) (Env.get [(7, bysC (b0 ++ putNs (l.take j)) .ro), (63, u64s l), (64, i64 l.length), (65, i64 j)]) h Q := by
  have hla : (l.map fun x => [Go.Av.u64 x]).length = l.length := by simp
  intro n
  induction n with
  | zero =>
    intro j hj
    rw [List.take_of_length_le (by omega)]
    refine RRun.inLoop ?_
    repeat' (first | refine S.nilK ?_ | (refine S.op rfl ?_; first | refine R.mv rfl ?_ | refine R.loadR rfl rfl ?_ | refine R.load (by decide) rfl (by (repeat' (first | assumption | exact AHeap.set_same _ _ _ | refine AHeap.get_fresh ‹_› ?_ | refine AHeap.so ?_ ?_ | exact AHeap.n1 ‹_› | exact AHeap.n2 ‹_› | exact AHeap.ne_of ‹_› ‹_› | exact AHeap.n4 ‹_› ‹_› | exact AHeap.n5 ‹_› | exact AHeap.n6 ‹_› | exact AHeap.n7 ‹_› ‹_› | exact AHeap.n8 ‹_› ‹_›)); first | done | fail) rfl ?_ | refine S.addI rfl rfl (by omega) ?_ | refine S.addU rfl rfl ?_ | refine S.addUc rfl (by decide) ?_ | refine R.pickT rfl rfl ?_ | refine R.pickF rfl rfl ?_ | refine R.len rfl ?_ | refine R.lenA rfl ?_ | refine R.lenStr rfl ?_ | refine S.convIU rfl (by omega) ?_ | refine S.convUI rfl (by omega) ?_ | refine R.convInt rfl ?_ | refine R.eqPtrNil rfl rfl ?_ | refine R.buildSl rfl rfl rfl (by decide) ?_ | ((first | refine S.lss rfl rfl ?_ ?_ | refine S.gtr rfl rfl ?_ ?_ | refine S.eqInt rfl rfl ?_ ?_) <;> intro hlt <;> try (exfalso; omega))) | refine S.skip rfl ?_ | refine S.skip0 rfl ?_ | refine S.seq ?_ | refine S.region ?_ | refine S.condT rfl ?_ | refine S.condF rfl ?_ | refine RRun.skip ?_ | refine RRun.block ?_ | refine RRun.inBlock ?_ | refine RRun.exit rfl ?_)
    exact S.keep [7] rfl hk
  | succ n ih =>
    intro j hj
    obtain ⟨m, hmj⟩ : ∃ m, l[j]? = some m := ⟨_, List.getElem?_eq_getElem (by omega)⟩
    have hga : (l.map fun x => [enc x])[((j : Nat) : Int).toNat]? = some [enc m] := by simp only [Int.toNat_natCast, List.getElem?_map, hmj]; rfl
    have htk : l.take (j + 1) = l.take j ++ [m] := by rw [List.take_add_one, hmj]; rfl
    have hpn : putNs (l.take (j + 1)) = putNs (l.take j) ++ putN m.toNat := by rw [htk]; simp [putNs]
    have hlen := putNs_len (l.take j)
    have htl : (l.take j).length = j := by simp; omega
    have ih' := ih (j + 1) (by omega)
    rw [hpn, ← List.append_assoc] at ih'
    have hA : (b0 ++ putNs (l.take j)).length ≤ 100000 := by rw [List.length_append]; omega
    generalize b0 ++ putNs (l.take j) = A at ih' hA
    refine RRun.inLoop ?_
    repeat' (first | refine S.nilK ?_ | (refine S.op rfl ?_; first | refine R.indexAddr (cc := .ro) (es := l.map fun x => [enc x]) rfl rfl (by omega) hga ?_ | refine callS rfl rfl (refN_spec A (by omega) m _) ?_ | refine R.mv rfl ?_ | refine R.loadR rfl rfl ?_ | refine R.load (by decide) rfl (by (repeat' (first | assumption | exact AHeap.set_same _ _ _ | refine AHeap.get_fresh ‹_› ?_ | refine AHeap.so ?_ ?_ | exact AHeap.n1 ‹_› | exact AHeap.n2 ‹_› | exact AHeap.ne_of ‹_› ‹_› | exact AHeap.n4 ‹_› ‹_› | exact AHeap.n5 ‹_› | exact AHeap.n6 ‹_› | exact AHeap.n7 ‹_› ‹_› | exact AHeap.n8 ‹_› ‹_›)); first | done | fail) rfl ?_ | refine S.addI rfl rfl (by omega) ?_ | refine S.addU rfl rfl ?_ | refine S.addUc rfl (by decide) ?_ | refine R.pickT rfl rfl ?_ | refine R.pickF rfl rfl ?_ | refine R.len rfl ?_ | refine R.lenA rfl ?_ | refine R.lenStr rfl ?_ | refine S.convIU rfl (by omega) ?_ | refine S.convUI rfl (by omega) ?_ | refine R.convInt rfl ?_ | refine R.eqPtrNil rfl rfl ?_ | refine R.buildSl rfl rfl rfl (by decide) ?_ | ((first | refine S.lss rfl rfl ?_ ?_ | refine S.gtr rfl rfl ?_ ?_ | refine S.eqInt rfl rfl ?_ ?_) <;> intro hlt <;> try (exfalso; omega))) | refine S.skip rfl ?_ | refine S.skip0 rfl ?_ | refine S.seq ?_ | refine S.region ?_ | refine S.condT rfl ?_ | refine S.condF rfl ?_ | refine RRun.skip ?_ | refine RRun.block ?_ | refine RRun.inBlock ?_ | refine RRun.exit rfl ?_)
    rw [show ((j : Int) + 1) = ((j + 1 : Nat) : Int) by omega]
    exact S.keep [7, 63, 64, 65] rfl ih'

def r46u : RCode :=
  (.seq (.region [
    ⟨(some 59), none, .act, .mv (.tmp 3)⟩,
    ⟨(some 60), none, .act, .len (.tmp 59)⟩,
    ⟨(some 61), none, .act, .convInt .u64 (.tmp 60)⟩,
    ⟨(some 62), none, .act, .call 80 [(.const (.slice none 0 0)), (.tmp 61)]⟩,
    ⟨(some 7), none, .act, .mv (.tmp 62)⟩])
  (.seq (.seq (.region [
    ⟨(some 63), none, .act, .mv (.tmp 3)⟩,
    ⟨(some 64), none, .act, .len (.tmp 63)⟩,
    ⟨(some 65), none, .act, .mv (.const (.int .i64 0))⟩])
  (.block 4
   (.loop r46l2)))
  (.seq (.region [
    ⟨(some 73), none, .act, .mv (.tmp 7)⟩,
    ⟨(some 2), none, .act, .mv (.tmp 73)⟩])
  .ret)))

theorem refMembers_spec (l : List UInt64) (hl : l.length ≤ 49) (h : AHeap) : ACalls Try.prog 46 [u64s l] h (fun x h' => x = bysC (putM l) .ro ∧ h' = h) := by
  obtain ⟨c, hc1, hc2⟩ := res46
  refine ACalls.weak (ACalls.enter Try.func46 hc1 Try.ntmps46 hc2 (Nat.le_of_ble_eq_true rfl) rfl ?_)
  have hla : (l.map fun x => [Go.Av.u64 x]).length = l.length := by simp
  have hdl : (dd (srt l)).length ≤ 49 := by
    have := dd_len (srt l)
    rw [srt_len] at this; omega
  repeat' (first | refine S.nilK ?_ | (refine S.op rfl ?_; first | refine R.mv rfl ?_ | refine R.loadR rfl rfl ?_ | refine R.load (by decide) rfl (by (repeat' (first | assumption | exact AHeap.set_same _ _ _ | refine AHeap.get_fresh ‹_› ?_ | refine AHeap.so ?_ ?_ | exact AHeap.n1 ‹_› | exact AHeap.n2 ‹_› | exact AHeap.ne_of ‹_› ‹_› | exact AHeap.n4 ‹_› ‹_› | exact AHeap.n5 ‹_› | exact AHeap.n6 ‹_› | exact AHeap.n7 ‹_› ‹_› | exact AHeap.n8 ‹_› ‹_›)); first | done | fail) rfl ?_ | refine S.addI rfl rfl (by omega) ?_ | refine S.addU rfl rfl ?_ | refine S.addUc rfl (by decide) ?_ | refine R.pickT rfl rfl ?_ | refine R.pickF rfl rfl ?_ | refine R.len rfl ?_ | refine R.lenA rfl ?_ | refine R.lenStr rfl ?_ | refine S.convIU rfl (by omega) ?_ | refine S.convUI rfl (by omega) ?_ | refine R.convInt rfl ?_ | refine R.eqPtrNil rfl rfl ?_ | refine R.buildSl rfl rfl rfl (by decide) ?_ | ((first | refine S.lss rfl rfl ?_ ?_ | refine S.gtr rfl rfl ?_ ?_ | refine S.eqInt rfl rfl ?_ ?_) <;> intro hlt <;> try (exfalso; omega))) | refine S.skip rfl ?_ | refine S.skip0 rfl ?_ | refine S.seq ?_ | refine S.region ?_ | refine S.condT rfl ?_ | refine S.condF rfl ?_ | refine RRun.skip ?_ | refine RRun.block ?_ | refine RRun.inBlock ?_ | refine RRun.exit rfl ?_)
  rw [hla]
  refine RRun.loopIn (S.keep [3, 10, 11, 12] rfl (RRun.envs (.cons 3 (.nilSl 1 (c := .ro) trivial) (.cons 10 (.refl _) (.cons 11 (.refl _) (.cons 12 (.refl _) .nil)))) (rm_outer l (by omega) h _ _ (fun h1 hle => ?_) l.length 0 [] h (by omega) (by simp) (by simp) (by simp) (.refl _))))
  have hput : putM l = putNs [UInt64.ofNat (mems l).length] ++ putNs (mems l) := rfl
  have hm : mems l = (dd (srt l)).take 9 := rfl
  generalize dd (srt l) = D at hdl hm
  have hlD : (D.map fun x => [Go.Av.u64 x]).length = D.length := by simp
  have h9 : (mems l).length ≤ 9 := by rw [hm]; simp; omega
  have last : RRun Try.prog Try.f46 74 [.code r46u] (Env.get [(3, u64s (mems l))]) h1 (Weak fun x h' => x = bysC (putM l) .ro ∧ h' = h) := by
    unfold r46u
    have hlM : ((mems l).map fun x => [Go.Av.u64 x]).length = (mems l).length := by simp
    rw [hput]
    generalize mems l = M at h9 hlM
    repeat' (first | refine S.nilK ?_ | (refine S.op rfl ?_; first | refine R.mv rfl ?_ | refine R.loadR rfl rfl ?_ | refine R.load (by decide) rfl (by (repeat' (first | assumption | exact AHeap.set_same _ _ _ | refine AHeap.get_fresh ‹_› ?_ | refine AHeap.so ?_ ?_ | exact AHeap.n1 ‹_› | exact AHeap.n2 ‹_› | exact AHeap.ne_of ‹_› ‹_› | exact AHeap.n4 ‹_› ‹_› | exact AHeap.n5 ‹_› | exact AHeap.n6 ‹_› | exact AHeap.n7 ‹_› ‹_› | exact AHeap.n8 ‹_› ‹_›)); first | done | fail) rfl ?_ | refine S.addI rfl rfl (by omega) ?_ | refine S.addU rfl rfl ?_ | refine S.addUc rfl (by decide) ?_ | refine R.pickT rfl rfl ?_ | refine R.pickF rfl rfl ?_ | refine R.len rfl ?_ | refine R.lenA rfl ?_ | refine R.lenStr rfl ?_ | refine S.convIU rfl (by omega) ?_ | refine S.convUI rfl (by omega) ?_ | refine R.convInt rfl ?_ | refine R.eqPtrNil rfl rfl ?_ | refine R.buildSl rfl rfl rfl (by decide) ?_ | ((first | refine S.lss rfl rfl ?_ ?_ | refine S.gtr rfl rfl ?_ ?_ | refine S.eqInt rfl rfl ?_ ?_) <;> intro hlt <;> try (exfalso; omega))) | refine S.skip rfl ?_ | refine S.skip0 rfl ?_ | refine S.seq ?_ | refine S.region ?_ | refine S.condT rfl ?_ | refine S.condF rfl ?_ | refine RRun.skip ?_ | refine RRun.block ?_ | refine RRun.inBlock ?_ | refine RRun.exit rfl ?_)
    rw [hlM]
    refine S.op rfl (callS rfl rfl (refN_nil (UInt64.ofNat M.length) _) ?_)
    repeat' (first | refine S.nilK ?_ | (refine S.op rfl ?_; first | refine R.mv rfl ?_ | refine R.loadR rfl rfl ?_ | refine R.load (by decide) rfl (by (repeat' (first | assumption | exact AHeap.set_same _ _ _ | refine AHeap.get_fresh ‹_› ?_ | refine AHeap.so ?_ ?_ | exact AHeap.n1 ‹_› | exact AHeap.n2 ‹_› | exact AHeap.ne_of ‹_› ‹_› | exact AHeap.n4 ‹_› ‹_› | exact AHeap.n5 ‹_› | exact AHeap.n6 ‹_› | exact AHeap.n7 ‹_› ‹_› | exact AHeap.n8 ‹_› ‹_›)); first | done | fail) rfl ?_ | refine S.addI rfl rfl (by omega) ?_ | refine S.addU rfl rfl ?_ | refine S.addUc rfl (by decide) ?_ | refine R.pickT rfl rfl ?_ | refine R.pickF rfl rfl ?_ | refine R.len rfl ?_ | refine R.lenA rfl ?_ | refine R.lenStr rfl ?_ | refine S.convIU rfl (by omega) ?_ | refine S.convUI rfl (by omega) ?_ | refine R.convInt rfl ?_ | refine R.eqPtrNil rfl rfl ?_ | refine R.buildSl rfl rfl rfl (by decide) ?_ | ((first | refine S.lss rfl rfl ?_ ?_ | refine S.gtr rfl rfl ?_ ?_ | refine S.eqInt rfl rfl ?_ ?_) <;> intro hlt <;> try (exfalso; omega))) | refine S.skip rfl ?_ | refine S.skip0 rfl ?_ | refine S.seq ?_ | refine S.region ?_ | refine S.condT rfl ?_ | refine S.condF rfl ?_ | refine RRun.skip ?_ | refine RRun.block ?_ | refine RRun.inBlock ?_ | refine RRun.exit rfl ?_)
    rw [hlM]
    have e0 : putN (UInt64.ofNat M.length).toNat = putNs [UInt64.ofNat M.length] ++ putNs (M.take 0) := by simp [putNs]
    rw [e0]
    have l1 := putNs_len [UInt64.ofNat M.length]
    refine RRun.loopIn (S.keep [7, 63, 64, 65] rfl (rm_bytes M (by omega) h1 _ _ _ (by simp only [List.length_cons, List.length_nil] at l1; omega) ?_ M.length 0 (by omega)))
    repeat' (first | refine S.nilK ?_ | (refine S.op rfl ?_; first | refine R.mv rfl ?_ | refine R.loadR rfl rfl ?_ | refine R.load (by decide) rfl (by (repeat' (first | assumption | exact AHeap.set_same _ _ _ | refine AHeap.get_fresh ‹_› ?_ | refine AHeap.so ?_ ?_ | exact AHeap.n1 ‹_› | exact AHeap.n2 ‹_› | exact AHeap.ne_of ‹_› ‹_› | exact AHeap.n4 ‹_› ‹_› | exact AHeap.n5 ‹_› | exact AHeap.n6 ‹_› | exact AHeap.n7 ‹_› ‹_› | exact AHeap.n8 ‹_› ‹_›)); first | done | fail) rfl ?_ | refine S.addI rfl rfl (by omega) ?_ | refine S.addU rfl rfl ?_ | refine S.addUc rfl (by decide) ?_ | refine R.pickT rfl rfl ?_ | refine R.pickF rfl rfl ?_ | refine R.len rfl ?_ | refine R.lenA rfl ?_ | refine R.lenStr rfl ?_ | refine S.convIU rfl (by omega) ?_ | refine S.convUI rfl (by omega) ?_ | refine R.convInt rfl ?_ | refine R.eqPtrNil rfl rfl ?_ | refine R.buildSl rfl rfl rfl (by decide) ?_ | ((first | refine S.lss rfl rfl ?_ ?_ | refine S.gtr rfl rfl ?_ ?_ | refine S.eqInt rfl rfl ?_ ?_) <;> intro hlt <;> try (exfalso; omega))) | refine S.skip rfl ?_ | refine S.skip0 rfl ?_ | refine S.seq ?_ | refine S.region ?_ | refine S.condT rfl ?_ | refine S.condF rfl ?_ | refine RRun.skip ?_ | refine RRun.block ?_ | refine RRun.inBlock ?_ | refine RRun.exit rfl ?_)
    apply S.ret rr46
    case hx => repeat (first | exact ResAt.nil | apply ResAt.tmp rfl | apply ResAt.cellA rfl (by (repeat' (first | assumption | exact AHeap.set_same _ _ _ | refine AHeap.get_fresh ‹_› ?_ | refine AHeap.so ?_ ?_ | exact AHeap.n1 ‹_› | exact AHeap.n2 ‹_› | exact AHeap.ne_of ‹_› ‹_› | exact AHeap.n4 ‹_› ‹_› | exact AHeap.n5 ‹_› | exact AHeap.n6 ‹_› | exact AHeap.n7 ‹_› ‹_› | exact AHeap.n8 ‹_› ‹_›)); first | done | fail) (by rfl) | apply ResAt.cell1 rfl (by (repeat' (first | assumption | exact AHeap.set_same _ _ _ | refine AHeap.get_fresh ‹_› ?_ | refine AHeap.so ?_ ?_ | exact AHeap.n1 ‹_› | exact AHeap.n2 ‹_› | exact AHeap.ne_of ‹_› ‹_› | exact AHeap.n4 ‹_› ‹_› | exact AHeap.n5 ‹_› | exact AHeap.n6 ‹_› | exact AHeap.n7 ‹_› ‹_› | exact AHeap.n8 ‹_› ‹_›)); first | done | fail) (by rfl))
    exact ⟨_, h, .refl _, hle, rfl, rfl⟩
  rw [hm] at last
  have hlE : ∀ n : Nat, (((D.map fun x => [enc x]).take ((n : Nat) : Int).toNat)) = (D.take n).map fun x => [enc x] := fun n => by simp
  by_cases h9D : 9 < D.length
  ·
    repeat' (first | ((show RRunG _ _ _ (.code r46u :: _) _ _ _; refine S.keep [3] rfl ?_; exact last)) | (rw [hlE 9]) | refine S.nilK ?_ | (refine S.op rfl ?_; first | refine S.sliceH (b := ((9 : Nat) : Int)) rfl rfl (by omega) (by rw [hlD]; omega) (by decide) ?_ | refine R.mv rfl ?_ | refine R.loadR rfl rfl ?_ | refine R.load (by decide) rfl (by (repeat' (first | assumption | exact AHeap.set_same _ _ _ | refine AHeap.get_fresh ‹_› ?_ | refine AHeap.so ?_ ?_ | exact AHeap.n1 ‹_› | exact AHeap.n2 ‹_› | exact AHeap.ne_of ‹_› ‹_› | exact AHeap.n4 ‹_› ‹_› | exact AHeap.n5 ‹_› | exact AHeap.n6 ‹_› | exact AHeap.n7 ‹_› ‹_› | exact AHeap.n8 ‹_› ‹_›)); first | done | fail) rfl ?_ | refine S.addI rfl rfl (by omega) ?_ | refine S.addU rfl rfl ?_ | refine S.addUc rfl (by decide) ?_ | refine R.pickT rfl rfl ?_ | refine R.pickF rfl rfl ?_ | refine R.len rfl ?_ | refine R.lenA rfl ?_ | refine R.lenStr rfl ?_ | refine S.convIU rfl (by omega) ?_ | refine S.convUI rfl (by omega) ?_ | refine R.convInt rfl ?_ | refine R.eqPtrNil rfl rfl ?_ | refine R.buildSl rfl rfl rfl (by decide) ?_ | ((first | refine S.lss rfl rfl ?_ ?_ | refine S.gtr rfl rfl ?_ ?_ | refine S.eqInt rfl rfl ?_ ?_) <;> intro hlt <;> try (exfalso; omega))) | refine S.skip rfl ?_ | refine S.skip0 rfl ?_ | refine S.seq ?_ | refine S.region ?_ | refine S.condT rfl ?_ | refine S.condF rfl ?_ | refine RRun.skip ?_ | refine RRun.block ?_ | refine RRun.inBlock ?_ | refine RRun.exit rfl ?_)
  · have e : D.take 9 = D := List.take_of_length_le (by omega)
    rw [e] at last
    repeat' (first | ((show RRunG _ _ _ (.code r46u :: _) _ _ _; exact S.keep [3] rfl last)) | refine S.nilK ?_ | (refine S.op rfl ?_; first | refine R.mv rfl ?_ | refine R.loadR rfl rfl ?_ | refine R.load (by decide) rfl (by (repeat' (first | assumption | exact AHeap.set_same _ _ _ | refine AHeap.get_fresh ‹_› ?_ | refine AHeap.so ?_ ?_ | exact AHeap.n1 ‹_› | exact AHeap.n2 ‹_› | exact AHeap.ne_of ‹_› ‹_› | exact AHeap.n4 ‹_› ‹_› | exact AHeap.n5 ‹_› | exact AHeap.n6 ‹_› | exact AHeap.n7 ‹_› ‹_› | exact AHeap.n8 ‹_› ‹_›)); first | done | fail) rfl ?_ | refine S.addI rfl rfl (by omega) ?_ | refine S.addU rfl rfl ?_ | refine S.addUc rfl (by decide) ?_ | refine R.pickT rfl rfl ?_ | refine R.pickF rfl rfl ?_ | refine R.len rfl ?_ | refine R.lenA rfl ?_ | refine R.lenStr rfl ?_ | refine S.convIU rfl (by omega) ?_ | refine S.convUI rfl (by omega) ?_ | refine R.convInt rfl ?_ | refine R.eqPtrNil rfl rfl ?_ | refine R.buildSl rfl rfl rfl (by decide) ?_ | ((first | refine S.lss rfl rfl ?_ ?_ | refine S.gtr rfl rfl ?_ ?_ | refine S.eqInt rfl rfl ?_ ?_) <;> intro hlt <;> try (exfalso; omega))) | refine S.skip rfl ?_ | refine S.skip0 rfl ?_ | refine S.seq ?_ | refine S.region ?_ | refine S.condT rfl ?_ | refine S.condF rfl ?_ | refine RRun.skip ?_ | refine RRun.block ?_ | refine RRun.inBlock ?_ | refine RRun.exit rfl ?_)

end Go.Proofs.Ytnmgamcmjjngcaa
