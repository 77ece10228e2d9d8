import Derived.Test.YtcjcmegkfplnkaaL3
set_option linter.unusedVariables false
set_option linter.unusedSimpArgs false
namespace Go.Proofs.Ytcjcmegkfplnkaa
open Go.Av

/-! ### A text in quotes -/

/-- What stands behind the first quote: the text, and how far it goes. -/
def quo : List UInt8 → Option (List UInt8 × Nat)
  | [] => none
  | c :: r =>
    if c = 39 then
      match r with
      | d :: r' => if d = 39 then (quo r').map fun p => (39 :: p.1, p.2 + 2) else some ([], 1)
      | [] => some ([], 1)
    else (quo r).map fun p => (c :: p.1, p.2 + 1)

theorem quo_nil : quo [] = none := by unfold quo; rfl
theorem quo_ne {c : UInt8} (r : List UInt8) (h : ¬ c = 39) : quo (c :: r) = (quo r).map fun p => (c :: p.1, p.2 + 1) := by
  conv => lhs; unfold quo
  simp [h]
theorem quo_end : quo [39] = some ([], 1) := by unfold quo; rfl
theorem quo_two (r : List UInt8) : quo (39 :: 39 :: r) = (quo r).map fun p => (39 :: p.1, p.2 + 2) := by
  conv => lhs; unfold quo
  simp
theorem quo_stop {d : UInt8} (r : List UInt8) (h : ¬ d = 39) : quo (39 :: d :: r) = some ([], 1) := by
  conv => lhs; unfold quo
  simp [h]

theorem one_byte (x : UInt8) : ∀ e ∈ [[u8 x]], ∀ a ∈ e, a.one = true := by
  intro e he a ha
  simp only [List.mem_singleton] at he
  subst he
  simp only [List.mem_singleton] at ha
  subst ha; rfl

def r26l0 : RCode :=
  (.seq (.seq (.region [
    ⟨(some 13), none, .pure, .mv (.tmp 0)⟩,
    ⟨(some 14), none, .pure, .nilCheck (.tmp 13)⟩,
    ⟨(some 15), none, .pure, .fieldAddr 1 (.tmp 14)⟩,
    ⟨(some 16), none, .read, .load false 1 (.tmp 15)⟩,
    ⟨(some 17), none, .pure, .mv (.tmp 0)⟩,
    ⟨(some 18), none, .pure, .nilCheck (.tmp 17)⟩,
    ⟨(some 19), none, .pure, .fieldAddr 0 (.tmp 18)⟩,
    ⟨(some 20), none, .read, .load false 1 (.tmp 19)⟩,
    ⟨(some 21), none, .pure, .lenStr (.tmp 20)⟩,
    ⟨(some 22), none, .pure, .bin .lss (.tmp 16) (.tmp 21)⟩])
  (.cond (.tmp 22)
   .skip
   (.exit 0)))
  (.block 1
   (.seq (.region [
     ⟨(some 23), none, .pure, .mv (.tmp 0)⟩,
     ⟨(some 24), none, .pure, .nilCheck (.tmp 23)⟩,
     ⟨(some 25), none, .pure, .fieldAddr 0 (.tmp 24)⟩,
     ⟨(some 26), none, .read, .load false 1 (.tmp 25)⟩,
     ⟨(some 27), none, .pure, .mv (.tmp 0)⟩,
     ⟨(some 28), none, .pure, .nilCheck (.tmp 27)⟩,
     ⟨(some 29), none, .pure, .fieldAddr 1 (.tmp 28)⟩,
     ⟨(some 30), none, .read, .load false 1 (.tmp 29)⟩,
     ⟨(some 31), none, .pure, .indexStr (.tmp 26) (.tmp 30)⟩,
     ⟨(some 5), none, .pure, .mv (.tmp 31)⟩])
   (.seq (.region [
     ⟨(some 32), none, .act, .mv (.tmp 0)⟩,
     ⟨(some 33), none, .act, .nilCheck (.tmp 32)⟩,
     ⟨(some 34), none, .act, .fieldAddr 1 (.tmp 33)⟩,
     ⟨(some 35), none, .act, .load false 1 (.tmp 34)⟩,
     ⟨(some 36), none, .act, .bin .add (.tmp 35) (.const (.int .i64 1))⟩,
     ⟨(some 37), none, .act, .nilCheck (.tmp 32)⟩,
     ⟨(some 38), none, .act, .fieldAddr 1 (.tmp 37)⟩,
     ⟨none, none, .act, .store 1 (.tmp 38) (.tmp 36)⟩])
   (.seq (.seq (.region [
     ⟨(some 39), none, .act, .mv (.tmp 5)⟩,
     ⟨(some 40), none, .act, .eq true .int (.tmp 39) (.const (.int .u8 39))⟩])
   (.cond (.tmp 40)
    (.seq (.region [
      ⟨(some 41), none, .act, .mv (.tmp 4)⟩,
      ⟨(some 42), none, .act, .mv (.tmp 5)⟩,
      ⟨(some 43), none, .act, .buildSl 1 [(.int .u8 0)] 1 [(0, (.tmp 42))]⟩,
      ⟨(some 44), none, .act, .append 1 1 [(.int .u8 0)] (.tmp 41) (.tmp 43)⟩,
      ⟨(some 4), none, .act, .mv (.tmp 44)⟩])
    (.exit 1))
    .skip))
   (.seq (.seq (.region [
     ⟨(some 45), none, .pure, .mv (.tmp 0)⟩,
     ⟨(some 46), none, .pure, .nilCheck (.tmp 45)⟩,
     ⟨(some 47), none, .pure, .fieldAddr 1 (.tmp 46)⟩,
     ⟨(some 48), none, .read, .load false 1 (.tmp 47)⟩,
     ⟨(some 49), none, .pure, .mv (.tmp 0)⟩,
     ⟨(some 50), none, .pure, .nilCheck (.tmp 49)⟩,
     ⟨(some 51), none, .pure, .fieldAddr 0 (.tmp 50)⟩,
     ⟨(some 52), none, .read, .load false 1 (.tmp 51)⟩,
     ⟨(some 53), none, .pure, .lenStr (.tmp 52)⟩,
     ⟨(some 54), none, .pure, .eq false .int (.tmp 48) (.tmp 53)⟩,
     ⟨(some 55), none, .pure, .mv (.tmp 54)⟩,
     ⟨(some 56), (some (55, false)), .pure, .mv (.tmp 0)⟩,
     ⟨(some 57), (some (55, false)), .pure, .nilCheck (.tmp 56)⟩,
     ⟨(some 58), (some (55, false)), .pure, .fieldAddr 0 (.tmp 57)⟩,
     ⟨(some 59), (some (55, false)), .read, .load false 1 (.tmp 58)⟩,
     ⟨(some 60), (some (55, false)), .pure, .mv (.tmp 0)⟩,
     ⟨(some 61), (some (55, false)), .pure, .nilCheck (.tmp 60)⟩,
     ⟨(some 62), (some (55, false)), .pure, .fieldAddr 1 (.tmp 61)⟩,
     ⟨(some 63), (some (55, false)), .read, .load false 1 (.tmp 62)⟩,
     ⟨(some 64), (some (55, false)), .pure, .indexStr (.tmp 59) (.tmp 63)⟩,
     ⟨(some 65), (some (55, false)), .pure, .eq true .int (.tmp 64) (.const (.int .u8 39))⟩,
     ⟨(some 66), none, .pure, .pick (.tmp 55) (.const (.bool true)) (.tmp 65)⟩])
   (.cond (.tmp 66)
    (.seq (.region [
      ⟨(some 67), none, .act, .mv (.tmp 4)⟩,
      ⟨(some 68), none, .act, .toStr (.tmp 67)⟩,
      ⟨(some 69), none, .act, .build [(.int .i64 0), (.string ⟨#[]⟩), (.int .i64 0), (.int .i64 0)] [(0, 1, (.const (.int .i64 3))), (1, 1, (.tmp 68))]⟩,
      ⟨(some 70), none, .act, .mv (.tmp 4)⟩,
      ⟨(some 71), none, .act, .len (.tmp 70)⟩,
      ⟨(some 72), none, .act, .bin .leq (.tmp 71) (.const (.int .i64 1000))⟩,
      ⟨none, none, .act, .store 4 (.tmp 2) (.tmp 69)⟩,
      ⟨(some 3), none, .act, .mv (.tmp 72)⟩])
    .ret)
    .skip))
   (.seq (.region [
     ⟨(some 73), none, .act, .mv (.tmp 4)⟩,
     ⟨(some 74), none, .act, .mv (.tmp 5)⟩,
     ⟨(some 75), none, .act, .buildSl 1 [(.int .u8 0)] 1 [(0, (.tmp 74))]⟩,
     ⟨(some 76), none, .act, .append 1 1 [(.int .u8 0)] (.tmp 73) (.tmp 75)⟩,
     ⟨(some 4), none, .act, .mv (.tmp 76)⟩])
   (.region [
     ⟨(some 77), none, .act, .mv (.tmp 0)⟩,
     ⟨(some 78), none, .act, .nilCheck (.tmp 77)⟩,
     ⟨(some 79), none, .act, .fieldAddr 1 (.tmp 78)⟩,
     ⟨(some 80), none, .act, .load false 1 (.tmp 79)⟩,
     ⟨(some 81), none, .act, .bin .add (.tmp 80) (.const (.int .i64 1))⟩,
     ⟨(some 82), none, .act, .nilCheck (.tmp 77)⟩,
     ⟨(some 83), none, .act, .fieldAddr 1 (.tmp 82)⟩,
     ⟨none, none, .act, .store 1 (.tmp 83) (.tmp 81)⟩]))))))))
/-- (*plenum/lex.cutter).quoted -/
def r26 : RCode :=
  (.seq (.region [
    ⟨(some 2), none, .act, .alloc [(.int .i64 0), (.string ⟨#[]⟩), (.int .i64 0), (.int .i64 0)]⟩,
    ⟨(some 3), none, .act, .mv (.const (.bool false))⟩])
  (.seq (.region [
    ⟨(some 4), none, .act, .mv (.const (.slice none 0 0))⟩])
  (.seq (.region [
    ⟨(some 6), none, .act, .mv (.tmp 0)⟩,
    ⟨(some 7), none, .act, .nilCheck (.tmp 6)⟩,
    ⟨(some 8), none, .act, .fieldAddr 1 (.tmp 7)⟩,
    ⟨(some 9), none, .act, .load false 1 (.tmp 8)⟩,
    ⟨(some 10), none, .act, .bin .add (.tmp 9) (.const (.int .i64 1))⟩,
    ⟨(some 11), none, .act, .nilCheck (.tmp 6)⟩,
    ⟨(some 12), none, .act, .fieldAddr 1 (.tmp 11)⟩,
    ⟨none, none, .act, .store 1 (.tmp 12) (.tmp 10)⟩])
  (.seq (.block 0
   (.loop r26l0))
  (.seq (.region [
    ⟨(some 84), none, .act, .build [(.int .i64 0), (.string ⟨#[]⟩), (.int .i64 0), (.int .i64 0)] []⟩,
    ⟨none, none, .act, .store 4 (.tmp 2) (.tmp 84)⟩,
    ⟨(some 3), none, .act, .mv (.const (.bool false))⟩])
  .ret)))))
theorem res26 : ∃ c, Try.f26.body = some c ∧ resCode Try.prog 85 c = some r26 := ⟨_, rfl, by kernel_rfl⟩
theorem rr26 : resRes Try.prog Try.f26.results.toList = some [.cell 2 true 4, .tmp 3] := by kernel_rfl
theorem quoted_loop (s : List UInt8) (hs : s.length ≤ 2000000) (p b2 : Nat) (h₀ : AHeap) (h0p : h₀ p = none) (h02 : h₀ b2 = none) (hpb : p ≠ b2) (k : List RT) (Q : AV → AHeap → Prop) : ∀ (m j : Nat) (acc : List UInt8) (cc : Cap) (g : AHeap), s.length - j ≤ m → j ≤ s.length → acc.length ≤ j → Grow h₀ g cc → g p = some (.box (cut s j)) → g b2 = some (.box (Tok.cells ⟨0, [], 0, 0⟩)) →
    (match quo (s.drop j) with
     | some (l, n) => ∀ g', h₀.le g' → g' p = some (.box (cut s (j + n))) → Q (.tu [.ag (Tok.cells ⟨3, acc ++ l, 0, 0⟩), bl (decide ((acc ++ l).length ≤ 1000))]) g'
     | none => ∀ g', h₀.le g' → g' p = some (.box (cut s s.length)) → g' b2 = some (.box (Tok.cells ⟨0, [], 0, 0⟩)) → RRun Try.prog Try.f26 85 k (Env.get [(2, ptr b2), (3, bl false)]) g' Q) →
    RRun Try.prog Try.f26 85 (.inLoop r26l0 :: .inBlock 0 :: k) (Env.get [(0, ptr p), (2, ptr b2), (3, bl false), (4, .sl 1 (Go.Av.byteCells acc) cc)]) g Q := by
  have hbp : b2 ≠ p := Ne.symm hpb
  intro m
  induction m using Nat.strongRecOn with
  | ind m ih =>
    intro j acc cc g hm hj hacc hg hp hb2 hk
    rcases Nat.lt_or_ge j s.length with hlt | hge
    · have hd : s.drop j = s[j] :: s.drop (j + 1) := List.drop_eq_getElem_cons hlt
      have hg1 : s[((j : Nat) : Int).toNat]? = some s[j] := by simp [hlt]
      rw [hd] at hk
      generalize s[j] = x at hk hg1
      have hxl := x.toNat_lt
      refine RRun.inLoop ?_
      have next : ∀ (x : UInt8) (d : Nat), 1 ≤ d → j + d ≤ s.length →
          (match (quo (s.drop (j + d))).map (fun q => (x :: q.1, q.2 + d)) with
           | some (l, n) => ∀ g', h₀.le g' → g' p = some (.box (cut s (j + n))) → Q (.tu [.ag (Tok.cells ⟨3, acc ++ l, 0, 0⟩), bl (decide ((acc ++ l).length ≤ 1000))]) g'
           | none => ∀ g', h₀.le g' → g' p = some (.box (cut s s.length)) → g' b2 = some (.box (Tok.cells ⟨0, [], 0, 0⟩)) → RRun Try.prog Try.f26 85 k (Env.get [(2, ptr b2), (3, bl false)]) g' Q) →
          ∀ c' h', Grow h₀ h' c' → h' p = some (.box (cut s (j + d))) → h' b2 = some (.box (Tok.cells ⟨0, [], 0, 0⟩)) →
          RRun Try.prog Try.f26 85 (.inLoop r26l0 :: .inBlock 0 :: k) (Env.get [(0, ptr p), (2, ptr b2), (3, bl false), (4, .sl 1 (Go.Av.byteCells acc ++ [[u8 x]]) c')]) h' Q := by
        intro x d hd1 hjd hk c' h' hg' hp' hb2'
        have e : Go.Av.byteCells acc ++ [[u8 x]] = Go.Av.byteCells (acc ++ [x]) := by simp [Go.Av.byteCells, Go.Av.byteCell]
        rw [e]
        refine ih (s.length - (j + d)) (by omega) (j + d) (acc ++ [x]) c' h' (Nat.le_refl _) hjd (by simp; omega) hg' hp' hb2' ?_
        cases hq : quo (s.drop (j + d)) with
        | none => rw [hq] at hk; exact hk
        | some ln =>
          obtain ⟨l, n⟩ := ln
          rw [hq] at hk
          intro g' q1 q2
          have := hk g' q1 (by rw [q2]; congr 2; rw [show j + d + n = j + (n + d) by omega])
          simpa using this
      by_cases hx : x = 39
      · subst hx
        have hx39 : ((39 : UInt8).toNat : Int) = 39 := rfl
        rcases Nat.lt_or_ge (j + 1) s.length with hlt2 | hge2
        · have hd2 : s.drop (j + 1) = s[j + 1] :: s.drop (j + 2) := List.drop_eq_getElem_cons hlt2
          have hg2 : s[((j : Int) + 1).toNat]? = some s[j + 1] := by
            have : ((j : Int) + 1).toNat = j + 1 := by omega
            rw [this]; simp [hlt2]
          rw [hd2] at hk
          generalize s[j + 1] = y at hk hg2
          have hyl := y.toNat_lt
          by_cases hy : y = 39
          · subst hy
            rw [quo_two] at hk
            repeat' (first | refine S.nilK ?_ | (refine S.op rfl ?_; first | refine S.lenS rfl ?_ | refine S.indexS rfl rfl (by omega) hg1 ?_ | refine S.indexS rfl rfl (by omega) hg2 ?_ | refine R.mv rfl ?_ | refine R.fieldAddr rfl ?_ | refine R.fieldAddrR rfl ?_ | refine R.nilCheck rfl ?_ | refine R.nilCheckR rfl ?_ | refine R.loadR rfl rfl ?_ | refine R.load (by decide) rfl (by (repeat' (first | assumption | exact AHeap.set_same _ _ _ | refine AHeap.get_fresh (by assumption) ?_ | refine AHeap.so ?_ ?_ | exact AHeap.n1 (by assumption) | exact AHeap.n2 (by assumption) | exact AHeap.ne_of (by assumption) (by assumption) | exact AHeap.n4 (by assumption) (by assumption) | exact AHeap.n5 (by assumption) | exact AHeap.n6 (by assumption) | exact AHeap.n7 (by assumption) (by assumption) | exact AHeap.n8 (by assumption) (by assumption))); first | done | fail) rfl ?_ | refine S.addI rfl rfl (by omega) ?_ | refine S.subI rfl rfl (by omega) ?_ | refine S.addU rfl rfl ?_ | refine S.subU rfl rfl ?_ | refine S.addUc rfl (by decide) ?_ | refine S.subUc rfl (by decide) ?_ | refine S.arith rfl rfl rfl ?_ | refine R.pickT rfl rfl ?_ | refine R.pickF rfl rfl ?_ | refine R.len rfl ?_ | refine R.lenA rfl ?_ | refine R.lenStr rfl ?_ | refine S.convIU rfl (by omega) ?_ | refine S.convUI rfl (by omega) ?_ | refine R.convInt rfl ?_ | refine R.not rfl ?_ | refine R.eqPtrNil rfl rfl ?_ | refine R.extract rfl rfl ?_ | refine R.field rfl rfl ?_ | refine R.alloc rfl (fun b hb => ?_) | refine R.box rfl rfl rfl (fun b hb => ?_) | refine R.build rfl rfl ?_ | refine R.buildSl rfl rfl rfl (by decide) ?_ | refine R.toStr rfl ?_ | refine R.convStr rfl ?_ | refine R.minmax rfl ?_ | refine R.makeFunc rfl rfl ?_ | (first | refine S.lss rfl rfl (fun hlt => ?_) (fun hlt => by exfalso; omega) | refine S.lss rfl rfl (fun hlt => by exfalso; omega) (fun hlt => ?_) | refine S.lss rfl rfl (fun hlt => ?_) (fun hlt => ?_)) | (first | refine S.gtr rfl rfl (fun hlt => ?_) (fun hlt => by exfalso; omega) | refine S.gtr rfl rfl (fun hlt => by exfalso; omega) (fun hlt => ?_) | refine S.gtr rfl rfl (fun hlt => ?_) (fun hlt => ?_)) | (first | refine S.leq rfl rfl (fun hlt => ?_) (fun hlt => by exfalso; omega) | refine S.leq rfl rfl (fun hlt => by exfalso; omega) (fun hlt => ?_) | refine S.leq rfl rfl (fun hlt => ?_) (fun hlt => ?_)) | (first | refine S.geq rfl rfl (fun hlt => ?_) (fun hlt => by exfalso; omega) | refine S.geq rfl rfl (fun hlt => by exfalso; omega) (fun hlt => ?_) | refine S.geq rfl rfl (fun hlt => ?_) (fun hlt => ?_)) | (first | refine S.eqInt rfl rfl (fun hlt => ?_) (fun hlt => by exfalso; omega) | refine S.eqInt rfl rfl (fun hlt => by exfalso; omega) (fun hlt => ?_) | refine S.eqInt rfl rfl (fun hlt => ?_) (fun hlt => ?_))) | (refine S.op0 rfl ?_; first | refine S.storeS rfl rfl rfl (by rfl) rfl (by first | decide | exact Nat.le_refl _ | exact Nat.le_of_ble_eq_true rfl) ?_ | refine S.store rfl rfl (by (repeat' (first | assumption | exact AHeap.set_same _ _ _ | refine AHeap.get_fresh (by assumption) ?_ | refine AHeap.so ?_ ?_ | exact AHeap.n1 (by assumption) | exact AHeap.n2 (by assumption) | exact AHeap.ne_of (by assumption) (by assumption) | exact AHeap.n4 (by assumption) (by assumption) | exact AHeap.n5 (by assumption) | exact AHeap.n6 (by assumption) | exact AHeap.n7 (by assumption) (by assumption) | exact AHeap.n8 (by assumption) (by assumption))); first | done | fail) rfl rfl rfl (by rfl) rfl ?_) | refine S.skip rfl ?_ | refine S.skip0 rfl ?_ | refine S.seq ?_ | refine S.region ?_ | refine S.regionT ?_ | refine S.tstep ?_ | refine S.talt ?_ ?_ | exact S.tstop | refine S.tdone ?_ | refine S.condT rfl ?_ | refine S.condF rfl ?_ | refine RRun.skip ?_ | refine RRun.block ?_ | refine RRun.inBlock ?_ | refine RRun.exit rfl ?_)
            refine S.op rfl (S.appendG (ys := [[u8 39]]) rfl (hg.setBox _ hp h0p) rfl (.sl _ _) rfl (.sl _ _) (one_byte 39) (by simp [Go.Av.byteCells]; omega) (by simp [Go.Av.byteCells]; omega) (fun c' h' hg' hbox => ?_))
            have hp' := hbox p _ (AHeap.set_same _ _ _)
            have hb2' := hbox b2 _ ((AHeap.set_other _ _ (Ne.symm hpb)).trans hb2)
            repeat' (first | refine S.nilK ?_ | (refine S.op rfl ?_; first | refine R.mv rfl ?_ | refine R.fieldAddr rfl ?_ | refine R.fieldAddrR rfl ?_ | refine R.nilCheck rfl ?_ | refine R.nilCheckR rfl ?_ | refine R.loadR rfl rfl ?_ | refine R.load (by decide) rfl (by (repeat' (first | assumption | exact AHeap.set_same _ _ _ | refine AHeap.get_fresh (by assumption) ?_ | refine AHeap.so ?_ ?_ | exact AHeap.n1 (by assumption) | exact AHeap.n2 (by assumption) | exact AHeap.ne_of (by assumption) (by assumption) | exact AHeap.n4 (by assumption) (by assumption) | exact AHeap.n5 (by assumption) | exact AHeap.n6 (by assumption) | exact AHeap.n7 (by assumption) (by assumption) | exact AHeap.n8 (by assumption) (by assumption))); first | done | fail) rfl ?_ | refine S.addI rfl rfl (by omega) ?_ | refine S.subI rfl rfl (by omega) ?_ | refine S.addU rfl rfl ?_ | refine S.subU rfl rfl ?_ | refine S.addUc rfl (by decide) ?_ | refine S.subUc rfl (by decide) ?_ | refine S.arith rfl rfl rfl ?_ | refine R.pickT rfl rfl ?_ | refine R.pickF rfl rfl ?_ | refine R.len rfl ?_ | refine R.lenA rfl ?_ | refine R.lenStr rfl ?_ | refine S.convIU rfl (by omega) ?_ | refine S.convUI rfl (by omega) ?_ | refine R.convInt rfl ?_ | refine R.not rfl ?_ | refine R.eqPtrNil rfl rfl ?_ | refine R.extract rfl rfl ?_ | refine R.field rfl rfl ?_ | refine R.alloc rfl (fun b hb => ?_) | refine R.box rfl rfl rfl (fun b hb => ?_) | refine R.build rfl rfl ?_ | refine R.buildSl rfl rfl rfl (by decide) ?_ | refine R.toStr rfl ?_ | refine R.convStr rfl ?_ | refine R.minmax rfl ?_ | refine R.makeFunc rfl rfl ?_ | (first | refine S.lss rfl rfl (fun hlt => ?_) (fun hlt => by exfalso; omega) | refine S.lss rfl rfl (fun hlt => by exfalso; omega) (fun hlt => ?_) | refine S.lss rfl rfl (fun hlt => ?_) (fun hlt => ?_)) | (first | refine S.gtr rfl rfl (fun hlt => ?_) (fun hlt => by exfalso; omega) | refine S.gtr rfl rfl (fun hlt => by exfalso; omega) (fun hlt => ?_) | refine S.gtr rfl rfl (fun hlt => ?_) (fun hlt => ?_)) | (first | refine S.leq rfl rfl (fun hlt => ?_) (fun hlt => by exfalso; omega) | refine S.leq rfl rfl (fun hlt => by exfalso; omega) (fun hlt => ?_) | refine S.leq rfl rfl (fun hlt => ?_) (fun hlt => ?_)) | (first | refine S.geq rfl rfl (fun hlt => ?_) (fun hlt => by exfalso; omega) | refine S.geq rfl rfl (fun hlt => by exfalso; omega) (fun hlt => ?_) | refine S.geq rfl rfl (fun hlt => ?_) (fun hlt => ?_)) | (first | refine S.eqInt rfl rfl (fun hlt => ?_) (fun hlt => by exfalso; omega) | refine S.eqInt rfl rfl (fun hlt => by exfalso; omega) (fun hlt => ?_) | refine S.eqInt rfl rfl (fun hlt => ?_) (fun hlt => ?_))) | (refine S.op0 rfl ?_; first | refine S.storeS rfl rfl rfl (by rfl) rfl (by first | decide | exact Nat.le_refl _ | exact Nat.le_of_ble_eq_true rfl) ?_ | refine S.store rfl rfl (by (repeat' (first | assumption | exact AHeap.set_same _ _ _ | refine AHeap.get_fresh (by assumption) ?_ | refine AHeap.so ?_ ?_ | exact AHeap.n1 (by assumption) | exact AHeap.n2 (by assumption) | exact AHeap.ne_of (by assumption) (by assumption) | exact AHeap.n4 (by assumption) (by assumption) | exact AHeap.n5 (by assumption) | exact AHeap.n6 (by assumption) | exact AHeap.n7 (by assumption) (by assumption) | exact AHeap.n8 (by assumption) (by assumption))); first | done | fail) rfl rfl rfl (by rfl) rfl ?_) | refine S.skip rfl ?_ | refine S.skip0 rfl ?_ | refine S.seq ?_ | refine S.region ?_ | refine S.regionT ?_ | refine S.tstep ?_ | refine S.talt ?_ ?_ | exact S.tstop | refine S.tdone ?_ | refine S.condT rfl ?_ | refine S.condF rfl ?_ | refine RRun.skip ?_ | refine RRun.block ?_ | refine RRun.inBlock ?_ | refine RRun.exit rfl ?_)
            rw [show ((j : Int) + 1 + 1) = ((j + 2 : Nat) : Int) by omega]
            refine S.keep [0, 2, 3, 4] rfl (next 39 2 (by omega) (by omega) hk c' _ ?_ (AHeap.set_same _ _ _) ?_)
            · exact hg'.setBox _ hp' h0p
            · exact (AHeap.set_other _ _ (Ne.symm hpb)).trans hb2'
          · have hy' : ¬ ((y.toNat : Int) = 39) := fun e => hy (UInt8.toNat_inj.1 (by have : (39 : UInt8).toNat = 39 := rfl; omega))
            rw [quo_stop _ hy] at hk
            repeat' (first | refine S.nilK ?_ | (refine S.op rfl ?_; first | refine S.lenS rfl ?_ | refine S.indexS rfl rfl (by omega) hg1 ?_ | refine S.indexS rfl rfl (by omega) hg2 ?_ | refine S.toStrS rfl ?_ | refine R.mv rfl ?_ | refine R.fieldAddr rfl ?_ | refine R.fieldAddrR rfl ?_ | refine R.nilCheck rfl ?_ | refine R.nilCheckR rfl ?_ | refine R.loadR rfl rfl ?_ | refine R.load (by decide) rfl (by (repeat' (first | assumption | exact AHeap.set_same _ _ _ | refine AHeap.get_fresh (by assumption) ?_ | refine AHeap.so ?_ ?_ | exact AHeap.n1 (by assumption) | exact AHeap.n2 (by assumption) | exact AHeap.ne_of (by assumption) (by assumption) | exact AHeap.n4 (by assumption) (by assumption) | exact AHeap.n5 (by assumption) | exact AHeap.n6 (by assumption) | exact AHeap.n7 (by assumption) (by assumption) | exact AHeap.n8 (by assumption) (by assumption))); first | done | fail) rfl ?_ | refine S.addI rfl rfl (by omega) ?_ | refine S.subI rfl rfl (by omega) ?_ | refine S.addU rfl rfl ?_ | refine S.subU rfl rfl ?_ | refine S.addUc rfl (by decide) ?_ | refine S.subUc rfl (by decide) ?_ | refine S.arith rfl rfl rfl ?_ | refine R.pickT rfl rfl ?_ | refine R.pickF rfl rfl ?_ | refine R.len rfl ?_ | refine R.lenA rfl ?_ | refine R.lenStr rfl ?_ | refine S.convIU rfl (by omega) ?_ | refine S.convUI rfl (by omega) ?_ | refine R.convInt rfl ?_ | refine R.not rfl ?_ | refine R.eqPtrNil rfl rfl ?_ | refine R.extract rfl rfl ?_ | refine R.field rfl rfl ?_ | refine R.alloc rfl (fun b hb => ?_) | refine R.box rfl rfl rfl (fun b hb => ?_) | refine R.build rfl rfl ?_ | refine R.buildSl rfl rfl rfl (by decide) ?_ | refine R.toStr rfl ?_ | refine R.convStr rfl ?_ | refine R.minmax rfl ?_ | refine R.makeFunc rfl rfl ?_ | (first | refine S.lss rfl rfl (fun hlt => ?_) (fun hlt => by exfalso; omega) | refine S.lss rfl rfl (fun hlt => by exfalso; omega) (fun hlt => ?_) | refine S.lss rfl rfl (fun hlt => ?_) (fun hlt => ?_)) | (first | refine S.gtr rfl rfl (fun hlt => ?_) (fun hlt => by exfalso; omega) | refine S.gtr rfl rfl (fun hlt => by exfalso; omega) (fun hlt => ?_) | refine S.gtr rfl rfl (fun hlt => ?_) (fun hlt => ?_)) | (first | refine S.leq rfl rfl (fun hlt => ?_) (fun hlt => by exfalso; omega) | refine S.leq rfl rfl (fun hlt => by exfalso; omega) (fun hlt => ?_) | refine S.leq rfl rfl (fun hlt => ?_) (fun hlt => ?_)) | (first | refine S.geq rfl rfl (fun hlt => ?_) (fun hlt => by exfalso; omega) | refine S.geq rfl rfl (fun hlt => by exfalso; omega) (fun hlt => ?_) | refine S.geq rfl rfl (fun hlt => ?_) (fun hlt => ?_)) | (first | refine S.eqInt rfl rfl (fun hlt => ?_) (fun hlt => by exfalso; omega) | refine S.eqInt rfl rfl (fun hlt => by exfalso; omega) (fun hlt => ?_) | refine S.eqInt rfl rfl (fun hlt => ?_) (fun hlt => ?_))) | (refine S.op0 rfl ?_; first | refine S.storeS rfl rfl rfl (by rfl) rfl (by first | decide | exact Nat.le_refl _ | exact Nat.le_of_ble_eq_true rfl) ?_ | refine S.store rfl rfl (by (repeat' (first | assumption | exact AHeap.set_same _ _ _ | refine AHeap.get_fresh (by assumption) ?_ | refine AHeap.so ?_ ?_ | exact AHeap.n1 (by assumption) | exact AHeap.n2 (by assumption) | exact AHeap.ne_of (by assumption) (by assumption) | exact AHeap.n4 (by assumption) (by assumption) | exact AHeap.n5 (by assumption) | exact AHeap.n6 (by assumption) | exact AHeap.n7 (by assumption) (by assumption) | exact AHeap.n8 (by assumption) (by assumption))); first | done | fail) rfl rfl rfl (by rfl) rfl ?_) | refine S.skip rfl ?_ | refine S.skip0 rfl ?_ | refine S.seq ?_ | refine S.region ?_ | refine S.regionT ?_ | refine S.tstep ?_ | refine S.talt ?_ ?_ | exact S.tstop | refine S.tdone ?_ | refine S.condT rfl ?_ | refine S.condF rfl ?_ | refine RRun.skip ?_ | refine RRun.block ?_ | refine RRun.inBlock ?_ | refine RRun.exit rfl ?_)
            all_goals
              apply S.ret rr26
              case hx => repeat (first | exact ResAt.nil | apply ResAt.tmp rfl | apply ResAt.cellA rfl (by (repeat' (first | assumption | exact AHeap.set_same _ _ _ | refine AHeap.get_fresh (by assumption) ?_ | refine AHeap.so ?_ ?_ | exact AHeap.n1 (by assumption) | exact AHeap.n2 (by assumption) | exact AHeap.ne_of (by assumption) (by assumption) | exact AHeap.n4 (by assumption) (by assumption) | exact AHeap.n5 (by assumption) | exact AHeap.n6 (by assumption) | exact AHeap.n7 (by assumption) (by assumption) | exact AHeap.n8 (by assumption) (by assumption))); first | done | fail) (by rfl) | apply ResAt.cell1 rfl (by (repeat' (first | assumption | exact AHeap.set_same _ _ _ | refine AHeap.get_fresh (by assumption) ?_ | refine AHeap.so ?_ ?_ | exact AHeap.n1 (by assumption) | exact AHeap.n2 (by assumption) | exact AHeap.ne_of (by assumption) (by assumption) | exact AHeap.n4 (by assumption) (by assumption) | exact AHeap.n5 (by assumption) | exact AHeap.n6 (by assumption) | exact AHeap.n7 (by assumption) (by assumption) | exact AHeap.n8 (by assumption) (by assumption))); first | done | fail) (by rfl))
              have fin := hk ((g.set p (.box (cut s (j + 1)))).set b2 (.box (Tok.cells ⟨3, acc, 0, 0⟩))) ((hg.le.set _ h0p).set _ h02) ((AHeap.set_other _ _ hpb).trans (AHeap.set_same _ _ _))
              rw [List.append_nil] at fin
              rw [Go.Av.len_bytes] at hlt
              first
                | (rw [decide_eq_true (by omega)] at fin; exact fin)
                | (rw [decide_eq_false (by omega)] at fin; exact fin)
        · have hd2 : s.drop (j + 1) = [] := by simp; omega
          rw [hd2, quo_end] at hk
          repeat' (first | refine S.nilK ?_ | (refine S.op rfl ?_; first | refine S.lenS rfl ?_ | refine S.indexS rfl rfl (by omega) hg1 ?_ | refine S.toStrS rfl ?_ | refine R.mv rfl ?_ | refine R.fieldAddr rfl ?_ | refine R.fieldAddrR rfl ?_ | refine R.nilCheck rfl ?_ | refine R.nilCheckR rfl ?_ | refine R.loadR rfl rfl ?_ | refine R.load (by decide) rfl (by (repeat' (first | assumption | exact AHeap.set_same _ _ _ | refine AHeap.get_fresh (by assumption) ?_ | refine AHeap.so ?_ ?_ | exact AHeap.n1 (by assumption) | exact AHeap.n2 (by assumption) | exact AHeap.ne_of (by assumption) (by assumption) | exact AHeap.n4 (by assumption) (by assumption) | exact AHeap.n5 (by assumption) | exact AHeap.n6 (by assumption) | exact AHeap.n7 (by assumption) (by assumption) | exact AHeap.n8 (by assumption) (by assumption))); first | done | fail) rfl ?_ | refine S.addI rfl rfl (by omega) ?_ | refine S.subI rfl rfl (by omega) ?_ | refine S.addU rfl rfl ?_ | refine S.subU rfl rfl ?_ | refine S.addUc rfl (by decide) ?_ | refine S.subUc rfl (by decide) ?_ | refine S.arith rfl rfl rfl ?_ | refine R.pickT rfl rfl ?_ | refine R.pickF rfl rfl ?_ | refine R.len rfl ?_ | refine R.lenA rfl ?_ | refine R.lenStr rfl ?_ | refine S.convIU rfl (by omega) ?_ | refine S.convUI rfl (by omega) ?_ | refine R.convInt rfl ?_ | refine R.not rfl ?_ | refine R.eqPtrNil rfl rfl ?_ | refine R.extract rfl rfl ?_ | refine R.field rfl rfl ?_ | refine R.alloc rfl (fun b hb => ?_) | refine R.box rfl rfl rfl (fun b hb => ?_) | refine R.build rfl rfl ?_ | refine R.buildSl rfl rfl rfl (by decide) ?_ | refine R.toStr rfl ?_ | refine R.convStr rfl ?_ | refine R.minmax rfl ?_ | refine R.makeFunc rfl rfl ?_ | (first | refine S.lss rfl rfl (fun hlt => ?_) (fun hlt => by exfalso; omega) | refine S.lss rfl rfl (fun hlt => by exfalso; omega) (fun hlt => ?_) | refine S.lss rfl rfl (fun hlt => ?_) (fun hlt => ?_)) | (first | refine S.gtr rfl rfl (fun hlt => ?_) (fun hlt => by exfalso; omega) | refine S.gtr rfl rfl (fun hlt => by exfalso; omega) (fun hlt => ?_) | refine S.gtr rfl rfl (fun hlt => ?_) (fun hlt => ?_)) | (first | refine S.leq rfl rfl (fun hlt => ?_) (fun hlt => by exfalso; omega) | refine S.leq rfl rfl (fun hlt => by exfalso; omega) (fun hlt => ?_) | refine S.leq rfl rfl (fun hlt => ?_) (fun hlt => ?_)) | (first | refine S.geq rfl rfl (fun hlt => ?_) (fun hlt => by exfalso; omega) | refine S.geq rfl rfl (fun hlt => by exfalso; omega) (fun hlt => ?_) | refine S.geq rfl rfl (fun hlt => ?_) (fun hlt => ?_)) | (first | refine S.eqInt rfl rfl (fun hlt => ?_) (fun hlt => by exfalso; omega) | refine S.eqInt rfl rfl (fun hlt => by exfalso; omega) (fun hlt => ?_) | refine S.eqInt rfl rfl (fun hlt => ?_) (fun hlt => ?_))) | (refine S.op0 rfl ?_; first | refine S.storeS rfl rfl rfl (by rfl) rfl (by first | decide | exact Nat.le_refl _ | exact Nat.le_of_ble_eq_true rfl) ?_ | refine S.store rfl rfl (by (repeat' (first | assumption | exact AHeap.set_same _ _ _ | refine AHeap.get_fresh (by assumption) ?_ | refine AHeap.so ?_ ?_ | exact AHeap.n1 (by assumption) | exact AHeap.n2 (by assumption) | exact AHeap.ne_of (by assumption) (by assumption) | exact AHeap.n4 (by assumption) (by assumption) | exact AHeap.n5 (by assumption) | exact AHeap.n6 (by assumption) | exact AHeap.n7 (by assumption) (by assumption) | exact AHeap.n8 (by assumption) (by assumption))); first | done | fail) rfl rfl rfl (by rfl) rfl ?_) | refine S.skip rfl ?_ | refine S.skip0 rfl ?_ | refine S.seq ?_ | refine S.region ?_ | refine S.regionT ?_ | refine S.tstep ?_ | refine S.talt ?_ ?_ | exact S.tstop | refine S.tdone ?_ | refine S.condT rfl ?_ | refine S.condF rfl ?_ | refine RRun.skip ?_ | refine RRun.block ?_ | refine RRun.inBlock ?_ | refine RRun.exit rfl ?_)
          all_goals
            apply S.ret rr26
            case hx => repeat (first | exact ResAt.nil | apply ResAt.tmp rfl | apply ResAt.cellA rfl (by (repeat' (first | assumption | exact AHeap.set_same _ _ _ | refine AHeap.get_fresh (by assumption) ?_ | refine AHeap.so ?_ ?_ | exact AHeap.n1 (by assumption) | exact AHeap.n2 (by assumption) | exact AHeap.ne_of (by assumption) (by assumption) | exact AHeap.n4 (by assumption) (by assumption) | exact AHeap.n5 (by assumption) | exact AHeap.n6 (by assumption) | exact AHeap.n7 (by assumption) (by assumption) | exact AHeap.n8 (by assumption) (by assumption))); first | done | fail) (by rfl) | apply ResAt.cell1 rfl (by (repeat' (first | assumption | exact AHeap.set_same _ _ _ | refine AHeap.get_fresh (by assumption) ?_ | refine AHeap.so ?_ ?_ | exact AHeap.n1 (by assumption) | exact AHeap.n2 (by assumption) | exact AHeap.ne_of (by assumption) (by assumption) | exact AHeap.n4 (by assumption) (by assumption) | exact AHeap.n5 (by assumption) | exact AHeap.n6 (by assumption) | exact AHeap.n7 (by assumption) (by assumption) | exact AHeap.n8 (by assumption) (by assumption))); first | done | fail) (by rfl))
            have fin := hk ((g.set p (.box (cut s (j + 1)))).set b2 (.box (Tok.cells ⟨3, acc, 0, 0⟩))) ((hg.le.set _ h0p).set _ h02) ((AHeap.set_other _ _ hpb).trans (AHeap.set_same _ _ _))
            rw [List.append_nil] at fin
            rw [Go.Av.len_bytes] at hlt
            first
              | (rw [decide_eq_true (by omega)] at fin; exact fin)
              | (rw [decide_eq_false (by omega)] at fin; exact fin)
      · have hx' : ¬ ((x.toNat : Int) = 39) := fun e => hx (UInt8.toNat_inj.1 (by have : (39 : UInt8).toNat = 39 := rfl; omega))
        rw [quo_ne _ hx] at hk
        repeat' (first | refine S.nilK ?_ | (refine S.op rfl ?_; first | refine S.lenS rfl ?_ | refine S.indexS rfl rfl (by omega) hg1 ?_ | refine R.mv rfl ?_ | refine R.fieldAddr rfl ?_ | refine R.fieldAddrR rfl ?_ | refine R.nilCheck rfl ?_ | refine R.nilCheckR rfl ?_ | refine R.loadR rfl rfl ?_ | refine R.load (by decide) rfl (by (repeat' (first | assumption | exact AHeap.set_same _ _ _ | refine AHeap.get_fresh (by assumption) ?_ | refine AHeap.so ?_ ?_ | exact AHeap.n1 (by assumption) | exact AHeap.n2 (by assumption) | exact AHeap.ne_of (by assumption) (by assumption) | exact AHeap.n4 (by assumption) (by assumption) | exact AHeap.n5 (by assumption) | exact AHeap.n6 (by assumption) | exact AHeap.n7 (by assumption) (by assumption) | exact AHeap.n8 (by assumption) (by assumption))); first | done | fail) rfl ?_ | refine S.addI rfl rfl (by omega) ?_ | refine S.subI rfl rfl (by omega) ?_ | refine S.addU rfl rfl ?_ | refine S.subU rfl rfl ?_ | refine S.addUc rfl (by decide) ?_ | refine S.subUc rfl (by decide) ?_ | refine S.arith rfl rfl rfl ?_ | refine R.pickT rfl rfl ?_ | refine R.pickF rfl rfl ?_ | refine R.len rfl ?_ | refine R.lenA rfl ?_ | refine R.lenStr rfl ?_ | refine S.convIU rfl (by omega) ?_ | refine S.convUI rfl (by omega) ?_ | refine R.convInt rfl ?_ | refine R.not rfl ?_ | refine R.eqPtrNil rfl rfl ?_ | refine R.extract rfl rfl ?_ | refine R.field rfl rfl ?_ | refine R.alloc rfl (fun b hb => ?_) | refine R.box rfl rfl rfl (fun b hb => ?_) | refine R.build rfl rfl ?_ | refine R.buildSl rfl rfl rfl (by decide) ?_ | refine R.toStr rfl ?_ | refine R.convStr rfl ?_ | refine R.minmax rfl ?_ | refine R.makeFunc rfl rfl ?_ | (first | refine S.lss rfl rfl (fun hlt => ?_) (fun hlt => by exfalso; omega) | refine S.lss rfl rfl (fun hlt => by exfalso; omega) (fun hlt => ?_) | refine S.lss rfl rfl (fun hlt => ?_) (fun hlt => ?_)) | (first | refine S.gtr rfl rfl (fun hlt => ?_) (fun hlt => by exfalso; omega) | refine S.gtr rfl rfl (fun hlt => by exfalso; omega) (fun hlt => ?_) | refine S.gtr rfl rfl (fun hlt => ?_) (fun hlt => ?_)) | (first | refine S.leq rfl rfl (fun hlt => ?_) (fun hlt => by exfalso; omega) | refine S.leq rfl rfl (fun hlt => by exfalso; omega) (fun hlt => ?_) | refine S.leq rfl rfl (fun hlt => ?_) (fun hlt => ?_)) | (first | refine S.geq rfl rfl (fun hlt => ?_) (fun hlt => by exfalso; omega) | refine S.geq rfl rfl (fun hlt => by exfalso; omega) (fun hlt => ?_) | refine S.geq rfl rfl (fun hlt => ?_) (fun hlt => ?_)) | (first | refine S.eqInt rfl rfl (fun hlt => ?_) (fun hlt => by exfalso; omega) | refine S.eqInt rfl rfl (fun hlt => by exfalso; omega) (fun hlt => ?_) | refine S.eqInt rfl rfl (fun hlt => ?_) (fun hlt => ?_))) | (refine S.op0 rfl ?_; first | refine S.storeS rfl rfl rfl (by rfl) rfl (by first | decide | exact Nat.le_refl _ | exact Nat.le_of_ble_eq_true rfl) ?_ | refine S.store rfl rfl (by (repeat' (first | assumption | exact AHeap.set_same _ _ _ | refine AHeap.get_fresh (by assumption) ?_ | refine AHeap.so ?_ ?_ | exact AHeap.n1 (by assumption) | exact AHeap.n2 (by assumption) | exact AHeap.ne_of (by assumption) (by assumption) | exact AHeap.n4 (by assumption) (by assumption) | exact AHeap.n5 (by assumption) | exact AHeap.n6 (by assumption) | exact AHeap.n7 (by assumption) (by assumption) | exact AHeap.n8 (by assumption) (by assumption))); first | done | fail) rfl rfl rfl (by rfl) rfl ?_) | refine S.skip rfl ?_ | refine S.skip0 rfl ?_ | refine S.seq ?_ | refine S.region ?_ | refine S.regionT ?_ | refine S.tstep ?_ | refine S.talt ?_ ?_ | exact S.tstop | refine S.tdone ?_ | refine S.condT rfl ?_ | refine S.condF rfl ?_ | refine RRun.skip ?_ | refine RRun.block ?_ | refine RRun.inBlock ?_ | refine RRun.exit rfl ?_)
        refine S.op rfl (S.appendG (ys := [[u8 x]]) rfl (hg.setBox _ hp h0p) rfl (.sl _ _) rfl (.sl _ _) (one_byte x) (by simp [Go.Av.byteCells]; omega) (by simp [Go.Av.byteCells]; omega) (fun c' h' hg' hbox => ?_))
        have hp' := hbox p _ (AHeap.set_same _ _ _)
        have hb2' := hbox b2 _ ((AHeap.set_other _ _ (Ne.symm hpb)).trans hb2)
        repeat' (first | refine S.nilK ?_ | (refine S.op rfl ?_; first | refine R.mv rfl ?_ | refine R.fieldAddr rfl ?_ | refine R.fieldAddrR rfl ?_ | refine R.nilCheck rfl ?_ | refine R.nilCheckR rfl ?_ | refine R.loadR rfl rfl ?_ | refine R.load (by decide) rfl (by (repeat' (first | assumption | exact AHeap.set_same _ _ _ | refine AHeap.get_fresh (by assumption) ?_ | refine AHeap.so ?_ ?_ | exact AHeap.n1 (by assumption) | exact AHeap.n2 (by assumption) | exact AHeap.ne_of (by assumption) (by assumption) | exact AHeap.n4 (by assumption) (by assumption) | exact AHeap.n5 (by assumption) | exact AHeap.n6 (by assumption) | exact AHeap.n7 (by assumption) (by assumption) | exact AHeap.n8 (by assumption) (by assumption))); first | done | fail) rfl ?_ | refine S.addI rfl rfl (by omega) ?_ | refine S.subI rfl rfl (by omega) ?_ | refine S.addU rfl rfl ?_ | refine S.subU rfl rfl ?_ | refine S.addUc rfl (by decide) ?_ | refine S.subUc rfl (by decide) ?_ | refine S.arith rfl rfl rfl ?_ | refine R.pickT rfl rfl ?_ | refine R.pickF rfl rfl ?_ | refine R.len rfl ?_ | refine R.lenA rfl ?_ | refine R.lenStr rfl ?_ | refine S.convIU rfl (by omega) ?_ | refine S.convUI rfl (by omega) ?_ | refine R.convInt rfl ?_ | refine R.not rfl ?_ | refine R.eqPtrNil rfl rfl ?_ | refine R.extract rfl rfl ?_ | refine R.field rfl rfl ?_ | refine R.alloc rfl (fun b hb => ?_) | refine R.box rfl rfl rfl (fun b hb => ?_) | refine R.build rfl rfl ?_ | refine R.buildSl rfl rfl rfl (by decide) ?_ | refine R.toStr rfl ?_ | refine R.convStr rfl ?_ | refine R.minmax rfl ?_ | refine R.makeFunc rfl rfl ?_ | (first | refine S.lss rfl rfl (fun hlt => ?_) (fun hlt => by exfalso; omega) | refine S.lss rfl rfl (fun hlt => by exfalso; omega) (fun hlt => ?_) | refine S.lss rfl rfl (fun hlt => ?_) (fun hlt => ?_)) | (first | refine S.gtr rfl rfl (fun hlt => ?_) (fun hlt => by exfalso; omega) | refine S.gtr rfl rfl (fun hlt => by exfalso; omega) (fun hlt => ?_) | refine S.gtr rfl rfl (fun hlt => ?_) (fun hlt => ?_)) | (first | refine S.leq rfl rfl (fun hlt => ?_) (fun hlt => by exfalso; omega) | refine S.leq rfl rfl (fun hlt => by exfalso; omega) (fun hlt => ?_) | refine S.leq rfl rfl (fun hlt => ?_) (fun hlt => ?_)) | (first | refine S.geq rfl rfl (fun hlt => ?_) (fun hlt => by exfalso; omega) | refine S.geq rfl rfl (fun hlt => by exfalso; omega) (fun hlt => ?_) | refine S.geq rfl rfl (fun hlt => ?_) (fun hlt => ?_)) | (first | refine S.eqInt rfl rfl (fun hlt => ?_) (fun hlt => by exfalso; omega) | refine S.eqInt rfl rfl (fun hlt => by exfalso; omega) (fun hlt => ?_) | refine S.eqInt rfl rfl (fun hlt => ?_) (fun hlt => ?_))) | (refine S.op0 rfl ?_; first | refine S.storeS rfl rfl rfl (by rfl) rfl (by first | decide | exact Nat.le_refl _ | exact Nat.le_of_ble_eq_true rfl) ?_ | refine S.store rfl rfl (by (repeat' (first | assumption | exact AHeap.set_same _ _ _ | refine AHeap.get_fresh (by assumption) ?_ | refine AHeap.so ?_ ?_ | exact AHeap.n1 (by assumption) | exact AHeap.n2 (by assumption) | exact AHeap.ne_of (by assumption) (by assumption) | exact AHeap.n4 (by assumption) (by assumption) | exact AHeap.n5 (by assumption) | exact AHeap.n6 (by assumption) | exact AHeap.n7 (by assumption) (by assumption) | exact AHeap.n8 (by assumption) (by assumption))); first | done | fail) rfl rfl rfl (by rfl) rfl ?_) | refine S.skip rfl ?_ | refine S.skip0 rfl ?_ | refine S.seq ?_ | refine S.region ?_ | refine S.regionT ?_ | refine S.tstep ?_ | refine S.talt ?_ ?_ | exact S.tstop | refine S.tdone ?_ | refine S.condT rfl ?_ | refine S.condF rfl ?_ | refine RRun.skip ?_ | refine RRun.block ?_ | refine RRun.inBlock ?_ | refine RRun.exit rfl ?_)
        refine S.keep [0, 2, 3, 4] rfl (next x 1 (by omega) (by omega) hk c' _ hg' ?_ hb2')
        exact hp'
    · have hd : s.drop j = [] := by simp; omega
      have hjs : j = s.length := by omega
      rw [hd, quo_nil] at hk
      refine RRun.inLoop ?_
      repeat' (first | refine S.nilK ?_ | (refine S.op rfl ?_; first | refine S.lenS rfl ?_ | refine R.mv rfl ?_ | refine R.fieldAddr rfl ?_ | refine R.fieldAddrR rfl ?_ | refine R.nilCheck rfl ?_ | refine R.nilCheckR rfl ?_ | refine R.loadR rfl rfl ?_ | refine R.load (by decide) rfl (by (repeat' (first | assumption | exact AHeap.set_same _ _ _ | refine AHeap.get_fresh (by assumption) ?_ | refine AHeap.so ?_ ?_ | exact AHeap.n1 (by assumption) | exact AHeap.n2 (by assumption) | exact AHeap.ne_of (by assumption) (by assumption) | exact AHeap.n4 (by assumption) (by assumption) | exact AHeap.n5 (by assumption) | exact AHeap.n6 (by assumption) | exact AHeap.n7 (by assumption) (by assumption) | exact AHeap.n8 (by assumption) (by assumption))); first | done | fail) rfl ?_ | refine S.addI rfl rfl (by omega) ?_ | refine S.subI rfl rfl (by omega) ?_ | refine S.addU rfl rfl ?_ | refine S.subU rfl rfl ?_ | refine S.addUc rfl (by decide) ?_ | refine S.subUc rfl (by decide) ?_ | refine S.arith rfl rfl rfl ?_ | refine R.pickT rfl rfl ?_ | refine R.pickF rfl rfl ?_ | refine R.len rfl ?_ | refine R.lenA rfl ?_ | refine R.lenStr rfl ?_ | refine S.convIU rfl (by omega) ?_ | refine S.convUI rfl (by omega) ?_ | refine R.convInt rfl ?_ | refine R.not rfl ?_ | refine R.eqPtrNil rfl rfl ?_ | refine R.extract rfl rfl ?_ | refine R.field rfl rfl ?_ | refine R.alloc rfl (fun b hb => ?_) | refine R.box rfl rfl rfl (fun b hb => ?_) | refine R.build rfl rfl ?_ | refine R.buildSl rfl rfl rfl (by decide) ?_ | refine R.toStr rfl ?_ | refine R.convStr rfl ?_ | refine R.minmax rfl ?_ | refine R.makeFunc rfl rfl ?_ | (first | refine S.lss rfl rfl (fun hlt => ?_) (fun hlt => by exfalso; omega) | refine S.lss rfl rfl (fun hlt => by exfalso; omega) (fun hlt => ?_) | refine S.lss rfl rfl (fun hlt => ?_) (fun hlt => ?_)) | (first | refine S.gtr rfl rfl (fun hlt => ?_) (fun hlt => by exfalso; omega) | refine S.gtr rfl rfl (fun hlt => by exfalso; omega) (fun hlt => ?_) | refine S.gtr rfl rfl (fun hlt => ?_) (fun hlt => ?_)) | (first | refine S.leq rfl rfl (fun hlt => ?_) (fun hlt => by exfalso; omega) | refine S.leq rfl rfl (fun hlt => by exfalso; omega) (fun hlt => ?_) | refine S.leq rfl rfl (fun hlt => ?_) (fun hlt => ?_)) | (first | refine S.geq rfl rfl (fun hlt => ?_) (fun hlt => by exfalso; omega) | refine S.geq rfl rfl (fun hlt => by exfalso; omega) (fun hlt => ?_) | refine S.geq rfl rfl (fun hlt => ?_) (fun hlt => ?_)) | (first | refine S.eqInt rfl rfl (fun hlt => ?_) (fun hlt => by exfalso; omega) | refine S.eqInt rfl rfl (fun hlt => by exfalso; omega) (fun hlt => ?_) | refine S.eqInt rfl rfl (fun hlt => ?_) (fun hlt => ?_))) | (refine S.op0 rfl ?_; first | refine S.storeS rfl rfl rfl (by rfl) rfl (by first | decide | exact Nat.le_refl _ | exact Nat.le_of_ble_eq_true rfl) ?_ | refine S.store rfl rfl (by (repeat' (first | assumption | exact AHeap.set_same _ _ _ | refine AHeap.get_fresh (by assumption) ?_ | refine AHeap.so ?_ ?_ | exact AHeap.n1 (by assumption) | exact AHeap.n2 (by assumption) | exact AHeap.ne_of (by assumption) (by assumption) | exact AHeap.n4 (by assumption) (by assumption) | exact AHeap.n5 (by assumption) | exact AHeap.n6 (by assumption) | exact AHeap.n7 (by assumption) (by assumption) | exact AHeap.n8 (by assumption) (by assumption))); first | done | fail) rfl rfl rfl (by rfl) rfl ?_) | refine S.skip rfl ?_ | refine S.skip0 rfl ?_ | refine S.seq ?_ | refine S.region ?_ | refine S.regionT ?_ | refine S.tstep ?_ | refine S.talt ?_ ?_ | exact S.tstop | refine S.tdone ?_ | refine S.condT rfl ?_ | refine S.condF rfl ?_ | refine RRun.skip ?_ | refine RRun.block ?_ | refine RRun.inBlock ?_ | refine RRun.exit rfl ?_)
      exact S.keep [2, 3] rfl (hk g hg.le (by rw [hp, hjs]) hb2)

theorem quo_len : ∀ (n : Nat) (t : List UInt8), t.length ≤ n → ∀ l m, quo t = some (l, m) → m ≤ t.length ∧ l.length ≤ m := by
  intro n
  induction n using Nat.strongRecOn with
  | ind n ih =>
    intro t ht l m hq
    match t, ht with
    | [], _ => rw [quo_nil] at hq; cases hq
    | c :: r, ht =>
      simp only [List.length_cons] at ht ⊢
      by_cases hc : c = 39
      · subst hc
        match r, ht with
        | [], _ => rw [quo_end] at hq; cases hq; simp
        | d :: r', ht =>
          simp only [List.length_cons] at ht ⊢
          by_cases hd : d = 39
          · subst hd
            rw [quo_two] at hq
            cases hq2 : quo r' with
            | none => rw [hq2] at hq; cases hq
            | some lm =>
              rw [hq2] at hq; cases hq
              have := ih r'.length (by omega) r' (Nat.le_refl _) lm.1 lm.2 hq2
              simp only [List.length_cons]; omega
          · rw [quo_stop _ hd] at hq; cases hq; simp
      · rw [quo_ne _ hc] at hq
        cases hq2 : quo r with
        | none => rw [hq2] at hq; cases hq
        | some lm =>
          rw [hq2] at hq; cases hq
          have := ih r.length (by omega) r (Nat.le_refl _) lm.1 lm.2 hq2
          simp only [List.length_cons]; omega

theorem quoted_spec (s : List UInt8) (hs : s.length ≤ 2000000) (p i : Nat) (hi : i < s.length) (h : AHeap) (hp : h p = some (.box (cut s i))) :
    ACalls Try.prog 26 [ptr p] h (fun x h' => match quo (s.drop (i + 1)) with
      | some (l, n) => x = .tu [.ag (Tok.cells ⟨3, l, 0, 0⟩), bl (decide (l.length ≤ 1000))] ∧ h' = h.set p (.box (cut s (i + 1 + n)))
      | none => x = .tu [.ag (Tok.cells ⟨0, [], 0, 0⟩), bl false] ∧ h' = h.set p (.box (cut s s.length))) := by
  obtain ⟨c, hc1, hc2⟩ := res26
  refine ACalls.weak (ACalls.enter Try.func26 hc1 Try.ntmps26 hc2 (Nat.le_of_ble_eq_true rfl) rfl ?_)
  repeat' (first | refine S.nilK ?_ | (refine S.op rfl ?_; first | refine R.mv rfl ?_ | refine R.fieldAddr rfl ?_ | refine R.fieldAddrR rfl ?_ | refine R.nilCheck rfl ?_ | refine R.nilCheckR rfl ?_ | refine R.loadR rfl rfl ?_ | refine R.load (by decide) rfl (by (repeat' (first | assumption | exact AHeap.set_same _ _ _ | refine AHeap.get_fresh (by assumption) ?_ | refine AHeap.so ?_ ?_ | exact AHeap.n1 (by assumption) | exact AHeap.n2 (by assumption) | exact AHeap.ne_of (by assumption) (by assumption) | exact AHeap.n4 (by assumption) (by assumption) | exact AHeap.n5 (by assumption) | exact AHeap.n6 (by assumption) | exact AHeap.n7 (by assumption) (by assumption) | exact AHeap.n8 (by assumption) (by assumption))); first | done | fail) rfl ?_ | refine S.addI rfl rfl (by omega) ?_ | refine S.subI rfl rfl (by omega) ?_ | refine S.addU rfl rfl ?_ | refine S.subU rfl rfl ?_ | refine S.addUc rfl (by decide) ?_ | refine S.subUc rfl (by decide) ?_ | refine S.arith rfl rfl rfl ?_ | refine R.pickT rfl rfl ?_ | refine R.pickF rfl rfl ?_ | refine R.len rfl ?_ | refine R.lenA rfl ?_ | refine R.lenStr rfl ?_ | refine S.convIU rfl (by omega) ?_ | refine S.convUI rfl (by omega) ?_ | refine R.convInt rfl ?_ | refine R.not rfl ?_ | refine R.eqPtrNil rfl rfl ?_ | refine R.extract rfl rfl ?_ | refine R.field rfl rfl ?_ | refine R.alloc rfl (fun b hb => ?_) | refine R.box rfl rfl rfl (fun b hb => ?_) | refine R.build rfl rfl ?_ | refine R.buildSl rfl rfl rfl (by decide) ?_ | refine R.toStr rfl ?_ | refine R.convStr rfl ?_ | refine R.minmax rfl ?_ | refine R.makeFunc rfl rfl ?_ | (first | refine S.lss rfl rfl (fun hlt => ?_) (fun hlt => by exfalso; omega) | refine S.lss rfl rfl (fun hlt => by exfalso; omega) (fun hlt => ?_) | refine S.lss rfl rfl (fun hlt => ?_) (fun hlt => ?_)) | (first | refine S.gtr rfl rfl (fun hlt => ?_) (fun hlt => by exfalso; omega) | refine S.gtr rfl rfl (fun hlt => by exfalso; omega) (fun hlt => ?_) | refine S.gtr rfl rfl (fun hlt => ?_) (fun hlt => ?_)) | (first | refine S.leq rfl rfl (fun hlt => ?_) (fun hlt => by exfalso; omega) | refine S.leq rfl rfl (fun hlt => by exfalso; omega) (fun hlt => ?_) | refine S.leq rfl rfl (fun hlt => ?_) (fun hlt => ?_)) | (first | refine S.geq rfl rfl (fun hlt => ?_) (fun hlt => by exfalso; omega) | refine S.geq rfl rfl (fun hlt => by exfalso; omega) (fun hlt => ?_) | refine S.geq rfl rfl (fun hlt => ?_) (fun hlt => ?_)) | (first | refine S.eqInt rfl rfl (fun hlt => ?_) (fun hlt => by exfalso; omega) | refine S.eqInt rfl rfl (fun hlt => by exfalso; omega) (fun hlt => ?_) | refine S.eqInt rfl rfl (fun hlt => ?_) (fun hlt => ?_))) | (refine S.op0 rfl ?_; first | refine S.storeS rfl rfl rfl (by rfl) rfl (by first | decide | exact Nat.le_refl _ | exact Nat.le_of_ble_eq_true rfl) ?_ | refine S.store rfl rfl (by (repeat' (first | assumption | exact AHeap.set_same _ _ _ | refine AHeap.get_fresh (by assumption) ?_ | refine AHeap.so ?_ ?_ | exact AHeap.n1 (by assumption) | exact AHeap.n2 (by assumption) | exact AHeap.ne_of (by assumption) (by assumption) | exact AHeap.n4 (by assumption) (by assumption) | exact AHeap.n5 (by assumption) | exact AHeap.n6 (by assumption) | exact AHeap.n7 (by assumption) (by assumption) | exact AHeap.n8 (by assumption) (by assumption))); first | done | fail) rfl rfl rfl (by rfl) rfl ?_) | refine S.skip rfl ?_ | refine S.skip0 rfl ?_ | refine S.seq ?_ | refine S.region ?_ | refine S.regionT ?_ | refine S.tstep ?_ | refine S.talt ?_ ?_ | exact S.tstop | refine S.tdone ?_ | refine S.condT rfl ?_ | refine S.condF rfl ?_ | refine RRun.skip ?_ | refine RRun.block ?_ | refine RRun.inBlock ?_ | refine RRun.exit rfl ?_)
  rw [show ((i : Int) + 1) = ((i + 1 : Nat) : Int) by omega]
  have hpb : p ≠ b := AHeap.ne_of hb hp
  refine RRun.loopIn (S.keep [0, 2, 3, 4] rfl (RRun.envs (l' := [(0, ptr p), (2, ptr b), (3, bl false), (4, .sl 1 (Go.Av.byteCells []) .full)]) (.cons _ (.refl _) (.cons _ (.refl _) (.cons _ (.refl _) (.cons _ (.nilSl 1 trivial) .nil)))) ?_))
  have h0 : (h.del p) p = none := AHeap.del_same _ _
  have h0b : (h.del p) b = none := by rw [AHeap.del_other _ (Ne.symm hpb)]; exact hb
  have hg : Grow (h.del p) ((h.set b (.box [i64 0, str [], i64 0, i64 0])).set p (.box (cut s (i + 1)))) .full :=
    .of_le ((((AHeap.del_le h p)).set _ h0b).set _ h0)
  refine quoted_loop s hs p b (h.del p) h0 h0b hpb _ _ (s.length - (i + 1)) (i + 1) [] .full _ (Nat.le_refl _) (by omega) (by simp) hg (AHeap.set_same _ _ _) ((AHeap.set_other _ _ (Ne.symm hpb)).trans (AHeap.set_same _ _ _)) ?_
  cases hq : quo (s.drop (i + 1)) with
  | some ln =>
    obtain ⟨l, n⟩ := ln
    intro g' q1 q2
    rw [List.nil_append]
    exact ⟨_, _, .refl _, AHeap.le.of_del q1 q2 (.refl _), rfl, rfl⟩
  | none =>
    intro g' q1 q2 q3
    repeat' (first | refine S.nilK ?_ | (refine S.op rfl ?_; first | refine R.mv rfl ?_ | refine R.fieldAddr rfl ?_ | refine R.fieldAddrR rfl ?_ | refine R.nilCheck rfl ?_ | refine R.nilCheckR rfl ?_ | refine R.loadR rfl rfl ?_ | refine R.load (by decide) rfl (by (repeat' (first | assumption | exact AHeap.set_same _ _ _ | refine AHeap.get_fresh (by assumption) ?_ | refine AHeap.so ?_ ?_ | exact AHeap.n1 (by assumption) | exact AHeap.n2 (by assumption) | exact AHeap.ne_of (by assumption) (by assumption) | exact AHeap.n4 (by assumption) (by assumption) | exact AHeap.n5 (by assumption) | exact AHeap.n6 (by assumption) | exact AHeap.n7 (by assumption) (by assumption) | exact AHeap.n8 (by assumption) (by assumption))); first | done | fail) rfl ?_ | refine S.addI rfl rfl (by omega) ?_ | refine S.subI rfl rfl (by omega) ?_ | refine S.addU rfl rfl ?_ | refine S.subU rfl rfl ?_ | refine S.addUc rfl (by decide) ?_ | refine S.subUc rfl (by decide) ?_ | refine S.arith rfl rfl rfl ?_ | refine R.pickT rfl rfl ?_ | refine R.pickF rfl rfl ?_ | refine R.len rfl ?_ | refine R.lenA rfl ?_ | refine R.lenStr rfl ?_ | refine S.convIU rfl (by omega) ?_ | refine S.convUI rfl (by omega) ?_ | refine R.convInt rfl ?_ | refine R.not rfl ?_ | refine R.eqPtrNil rfl rfl ?_ | refine R.extract rfl rfl ?_ | refine R.field rfl rfl ?_ | refine R.alloc rfl (fun b hb => ?_) | refine R.box rfl rfl rfl (fun b hb => ?_) | refine R.build rfl rfl ?_ | refine R.buildSl rfl rfl rfl (by decide) ?_ | refine R.toStr rfl ?_ | refine R.convStr rfl ?_ | refine R.minmax rfl ?_ | refine R.makeFunc rfl rfl ?_ | (first | refine S.lss rfl rfl (fun hlt => ?_) (fun hlt => by exfalso; omega) | refine S.lss rfl rfl (fun hlt => by exfalso; omega) (fun hlt => ?_) | refine S.lss rfl rfl (fun hlt => ?_) (fun hlt => ?_)) | (first | refine S.gtr rfl rfl (fun hlt => ?_) (fun hlt => by exfalso; omega) | refine S.gtr rfl rfl (fun hlt => by exfalso; omega) (fun hlt => ?_) | refine S.gtr rfl rfl (fun hlt => ?_) (fun hlt => ?_)) | (first | refine S.leq rfl rfl (fun hlt => ?_) (fun hlt => by exfalso; omega) | refine S.leq rfl rfl (fun hlt => by exfalso; omega) (fun hlt => ?_) | refine S.leq rfl rfl (fun hlt => ?_) (fun hlt => ?_)) | (first | refine S.geq rfl rfl (fun hlt => ?_) (fun hlt => by exfalso; omega) | refine S.geq rfl rfl (fun hlt => by exfalso; omega) (fun hlt => ?_) | refine S.geq rfl rfl (fun hlt => ?_) (fun hlt => ?_)) | (first | refine S.eqInt rfl rfl (fun hlt => ?_) (fun hlt => by exfalso; omega) | refine S.eqInt rfl rfl (fun hlt => by exfalso; omega) (fun hlt => ?_) | refine S.eqInt rfl rfl (fun hlt => ?_) (fun hlt => ?_))) | (refine S.op0 rfl ?_; first | refine S.storeS rfl rfl rfl (by rfl) rfl (by first | decide | exact Nat.le_refl _ | exact Nat.le_of_ble_eq_true rfl) ?_ | refine S.store rfl rfl (by (repeat' (first | assumption | exact AHeap.set_same _ _ _ | refine AHeap.get_fresh (by assumption) ?_ | refine AHeap.so ?_ ?_ | exact AHeap.n1 (by assumption) | exact AHeap.n2 (by assumption) | exact AHeap.ne_of (by assumption) (by assumption) | exact AHeap.n4 (by assumption) (by assumption) | exact AHeap.n5 (by assumption) | exact AHeap.n6 (by assumption) | exact AHeap.n7 (by assumption) (by assumption) | exact AHeap.n8 (by assumption) (by assumption))); first | done | fail) rfl rfl rfl (by rfl) rfl ?_) | refine S.skip rfl ?_ | refine S.skip0 rfl ?_ | refine S.seq ?_ | refine S.region ?_ | refine S.regionT ?_ | refine S.tstep ?_ | refine S.talt ?_ ?_ | exact S.tstop | refine S.tdone ?_ | refine S.condT rfl ?_ | refine S.condF rfl ?_ | refine RRun.skip ?_ | refine RRun.block ?_ | refine RRun.inBlock ?_ | refine RRun.exit rfl ?_)
    apply S.ret rr26
    case hx => repeat (first | exact ResAt.nil | apply ResAt.tmp rfl | apply ResAt.cellA rfl (by (repeat' (first | assumption | exact AHeap.set_same _ _ _ | refine AHeap.get_fresh (by assumption) ?_ | refine AHeap.so ?_ ?_ | exact AHeap.n1 (by assumption) | exact AHeap.n2 (by assumption) | exact AHeap.ne_of (by assumption) (by assumption) | exact AHeap.n4 (by assumption) (by assumption) | exact AHeap.n5 (by assumption) | exact AHeap.n6 (by assumption) | exact AHeap.n7 (by assumption) (by assumption) | exact AHeap.n8 (by assumption) (by assumption))); first | done | fail) (by rfl) | apply ResAt.cell1 rfl (by (repeat' (first | assumption | exact AHeap.set_same _ _ _ | refine AHeap.get_fresh (by assumption) ?_ | refine AHeap.so ?_ ?_ | exact AHeap.n1 (by assumption) | exact AHeap.n2 (by assumption) | exact AHeap.ne_of (by assumption) (by assumption) | exact AHeap.n4 (by assumption) (by assumption) | exact AHeap.n5 (by assumption) | exact AHeap.n6 (by assumption) | exact AHeap.n7 (by assumption) (by assumption) | exact AHeap.n8 (by assumption) (by assumption))); first | done | fail) (by rfl))
    refine ⟨_, _, .refl _, AHeap.le.of_del (q1.set _ h0b) ((AHeap.set_other _ _ hpb).trans q2) (.refl _), rfl, rfl⟩

end Go.Proofs.Ytcjcmegkfplnkaa
