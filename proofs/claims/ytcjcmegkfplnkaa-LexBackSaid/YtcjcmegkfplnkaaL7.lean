import Derived.Test.YtcjcmegkfplnkaaL6
set_option linter.unusedVariables false
set_option linter.unusedSimpArgs false
namespace Go.Proofs.Ytcjcmegkfplnkaa
open Go.Av

def blanks (t : List UInt8) : Nat := (t.takeWhile isBlank).length

/-- The tokens of what is left, and how it ends: an error's number, its place. -/
def cutF : Nat → List UInt8 → Nat → Nat → List Tok × Option (Int × Nat)
  | 0, _, _, _ => ([], none)
  | f + 1, t, i, n =>
    if t.drop (blanks t) = [] then ([], none)
    else if n = 400 then ([], some (2, i + blanks t))
    else if (nextR (t.drop (blanks t))).2.1 then
      ({ (nextR (t.drop (blanks t))).1 with pos := (i + blanks t : Nat) } :: (cutF f ((t.drop (blanks t)).drop (nextR (t.drop (blanks t))).2.2) (i + blanks t + (nextR (t.drop (blanks t))).2.2) (n + 1)).1,
        (cutF f ((t.drop (blanks t)).drop (nextR (t.drop (blanks t))).2.2) (i + blanks t + (nextR (t.drop (blanks t))).2.2) (n + 1)).2)
    else ([], some (190, i + blanks t))

theorem cutF_end {f : Nat} {t : List UInt8} {i n : Nat} (h : t.drop (blanks t) = []) : cutF (f + 1) t i n = ([], none) := by simp only [cutF, h, if_true]
theorem cutF_long {f : Nat} {t : List UInt8} {i n : Nat} (h : t.drop (blanks t) ≠ []) (hn : n = 400) : cutF (f + 1) t i n = ([], some (2, i + blanks t)) := by simp only [cutF, if_neg h, if_pos hn]
theorem cutF_bad {f : Nat} {t : List UInt8} {i n : Nat} (h : t.drop (blanks t) ≠ []) (hn : n ≠ 400) (hb : (nextR (t.drop (blanks t))).2.1 = false) : cutF (f + 1) t i n = ([], some (190, i + blanks t)) := by simp only [cutF, if_neg h, if_neg hn, hb]; rfl
theorem cutF_tok {f : Nat} {t : List UInt8} {i n : Nat} (h : t.drop (blanks t) ≠ []) (hn : n ≠ 400) (hb : (nextR (t.drop (blanks t))).2.1 = true) : cutF (f + 1) t i n =
    ({ (nextR (t.drop (blanks t))).1 with pos := (i + blanks t : Nat) } :: (cutF f ((t.drop (blanks t)).drop (nextR (t.drop (blanks t))).2.2) (i + blanks t + (nextR (t.drop (blanks t))).2.2) (n + 1)).1,
        (cutF f ((t.drop (blanks t)).drop (nextR (t.drop (blanks t))).2.2) (i + blanks t + (nextR (t.drop (blanks t))).2.2) (n + 1)).2) := by simp only [cutF, if_neg h, if_neg hn, hb, if_true]

def errTok (pos : Nat) : Tok := ⟨0, [], 0, pos⟩
/-- What is told, one by one. -/
def yields (r : List Tok × Option (Int × Nat)) : List (List AV) :=
  r.1.map (fun t => [.ag t.cells, i64 0]) ++ (match r.2 with | none => [] | some (e, pos) => [[.ag (errTok pos).cells, i64 e]])

theorem takeWhile_pos {p : UInt8 → Bool} {c : UInt8} {r : List UInt8} (h : p c = true) : 1 ≤ ((c :: r).takeWhile p).length := by simp [h]
theorem takeWhile_le {p : UInt8 → Bool} (t : List UInt8) : (t.takeWhile p).length ≤ t.length := (List.takeWhile_prefix p).length_le

theorem nextR_len (t : List UInt8) (ht : t ≠ []) : (nextR t).2.2 ≤ t.length ∧ ((nextR t).2.1 = true → 1 ≤ (nextR t).2.2) := by
  match t, ht with
  | c :: r, _ =>
    unfold nextR
    by_cases h1 : isLetter c = true
    · simp only [h1, if_true]
      exact ⟨takeWhile_le _, fun _ => takeWhile_pos (by simp [isWord, h1])⟩
    · simp only [h1]
      by_cases h2 : isDigit c = true
      · simp only [h2, if_true]
        exact ⟨takeWhile_le _, fun _ => takeWhile_pos h2⟩
      · simp only [h2]
        by_cases h3 : c = 39
        · simp only [h3, if_true]
          cases hq : quo r with
          | none => simp
          | some ln =>
            obtain ⟨l, n⟩ := ln
            have := (quo_len _ r (Nat.le_refl _) l n hq).1
            simp; omega
        · simp only [h3, if_false]
          have : 1 ≤ (markP (c :: r)).1.length ∧ (markP (c :: r)).1.length ≤ (c :: r).length := by
            unfold markP
            cases r with
            | nil => simp
            | cons d r' => simp only; split <;> simp
          exact ⟨this.2, fun _ => this.1⟩

def r14l0 : RCode :=
  (.block 1
   (.seq (.region [
     ⟨(some 11), none, .act, .mv (.tmp 3)⟩,
     ⟨(some 12), none, .act, .call 15 [(.tmp 11), (.func 16)]⟩])
   (.seq (.region [
     ⟨(some 13), none, .act, .mv (.tmp 3)⟩,
     ⟨(some 14), none, .act, .nilCheck (.tmp 13)⟩,
     ⟨(some 15), none, .act, .fieldAddr 1 (.tmp 14)⟩,
     ⟨(some 16), none, .act, .load false 1 (.tmp 15)⟩,
     ⟨(some 5), none, .act, .mv (.tmp 16)⟩])
   (.seq (.seq (.region [
     ⟨(some 17), none, .act, .mv (.tmp 5)⟩,
     ⟨(some 18), none, .act, .load false 1 (.tmp 1)⟩,
     ⟨(some 19), none, .act, .lenStr (.tmp 18)⟩,
     ⟨(some 20), none, .act, .eq false .int (.tmp 17) (.tmp 19)⟩])
   (.cond (.tmp 20)
    (.exit 0)
    .skip))
   (.seq (.seq (.region [
     ⟨(some 21), none, .act, .mv (.tmp 4)⟩,
     ⟨(some 22), none, .act, .eq false .int (.tmp 21) (.const (.int .i64 400))⟩])
   (.cond (.tmp 22)
    (.seq (.region [
      ⟨(some 23), none, .act, .mv (.tmp 0)⟩,
      ⟨(some 24), none, .act, .mv (.tmp 5)⟩,
      ⟨(some 25), none, .act, .build [(.int .i64 0), (.string ⟨#[]⟩), (.int .i64 0), (.int .i64 0)] [(3, 1, (.tmp 24))]⟩,
      ⟨(some 26), none, .act, .callv (.tmp 23) [(.tmp 25), (.const (.int .i64 2))]⟩])
    .ret)
    .skip))
   (.seq (.region [
     ⟨(some 28), none, .act, .mv (.tmp 3)⟩,
     ⟨(some 29), none, .act, .call 17 [(.tmp 28)]⟩,
     ⟨(some 27), none, .act, .mv (.tmp 29)⟩,
     ⟨(some 30), none, .act, .extract (.tmp 27) 0⟩,
     ⟨(some 31), none, .act, .extract (.tmp 27) 1⟩,
     ⟨(some 6), none, .act, .alloc [(.int .i64 0), (.string ⟨#[]⟩), (.int .i64 0), (.int .i64 0)]⟩,
     ⟨none, none, .act, .store 4 (.tmp 6) (.tmp 30)⟩,
     ⟨(some 7), none, .act, .mv (.tmp 31)⟩])
   (.seq (.seq (.region [
     ⟨(some 32), none, .act, .mv (.tmp 7)⟩,
     ⟨(some 33), none, .act, .un .not (.tmp 32)⟩])
   (.cond (.tmp 33)
    (.seq (.region [
      ⟨(some 34), none, .act, .mv (.tmp 0)⟩,
      ⟨(some 35), none, .act, .mv (.tmp 5)⟩,
      ⟨(some 36), none, .act, .build [(.int .i64 0), (.string ⟨#[]⟩), (.int .i64 0), (.int .i64 0)] [(3, 1, (.tmp 35))]⟩,
      ⟨(some 37), none, .act, .callv (.tmp 34) [(.tmp 36), (.const (.int .i64 190))]⟩])
    .ret)
    .skip))
   (.seq (.region [
     ⟨(some 38), none, .act, .mv (.tmp 5)⟩,
     ⟨(some 39), none, .act, .fieldAddr 3 (.tmp 6)⟩,
     ⟨none, none, .act, .store 1 (.tmp 39) (.tmp 38)⟩])
   (.seq (.region [
     ⟨(some 40), none, .act, .mv (.tmp 4)⟩,
     ⟨(some 41), none, .act, .bin .add (.tmp 40) (.const (.int .i64 1))⟩,
     ⟨(some 4), none, .act, .mv (.tmp 41)⟩])
   (.seq (.region [
     ⟨(some 42), none, .act, .mv (.tmp 0)⟩,
     ⟨(some 43), none, .act, .load true 4 (.tmp 6)⟩,
     ⟨(some 44), none, .act, .callv (.tmp 42) [(.tmp 43), (.const (.int .i64 0))]⟩,
     ⟨(some 45), none, .act, .un .not (.tmp 44)⟩])
   (.cond (.tmp 45)
    .ret
    .skip)))))))))))
/-- plenum/lex.Tokens$1 -/
def r14 : RCode :=
  (.seq (.region [
    ⟨(some 8), none, .act, .load false 1 (.tmp 1)⟩,
    ⟨(some 9), none, .act, .build [(.string ⟨#[]⟩), (.int .i64 0)] [(0, 1, (.tmp 8))]⟩,
    ⟨(some 10), none, .act, .box (.tmp 9)⟩,
    ⟨(some 3), none, .act, .mv (.tmp 10)⟩])
  (.seq (.region [
    ⟨(some 4), none, .act, .mv (.const (.int .i64 0))⟩])
  (.seq .skip
  (.block 0
   (.loop r14l0)))))
theorem res14 : ∃ c, Try.f14.body = some c ∧ resCode Try.prog 46 c = some r14 := ⟨_, rfl, by kernel_rfl⟩
theorem rr14 : resRes Try.prog Try.f14.results.toList = some [] := by kernel_rfl
theorem tokens_loop (s : List UInt8) (hs : s.length ≤ 2000000) (l p q : Nat) (h0 : AHeap) (C0 : Nat → Prop) (I : Nat → (Nat → Prop) → AHeap → Prop) (Z : (Nat → Prop) → AHeap → Prop) (hI : ∀ j, Client (I j)) (ys : List (List AV))
    (hy : ∀ j vs, ys[j]? = some vs → ∀ C h, I j C h → YStep Try.prog l vs C h (I (j + 1)) Z) (h0p : h0 p = none) (hpq : p ≠ q) (Q : AV → AHeap → Prop)
    (hQ : ∀ C h, (I ys.length C h ∨ Z C h) → (∀ x o, h0 x = some o → ¬ C0 x → h x = some o) → (∀ x, C x → C0 x ∨ h0 x = none) → Q (.tu []) h) : ∀ (f i n j : Nat) (C : Nat → Prop) (g : AHeap), s.length - i < f → i ≤ s.length → n ≤ 400 → j ≤ ys.length →
    ys.drop j = yields (cutF f (s.drop i) i n) → I j C g → ¬ C p → ¬ C q → g p = some (.box (cut s i)) → g q = some (.box [str s]) → (∀ x o, h0 x = some o → ¬ C0 x → g x = some o) → (∀ x, C x → C0 x ∨ h0 x = none) →
    RRun Try.prog Try.f14 46 [.inLoop r14l0, .inBlock 0] (Env.get [(0, yieldV l), (1, ptr q), (3, ptr p), (4, i64 n)]) g Q := by
  have hqp := Ne.symm hpq
  intro f
  induction f with
  | zero => intro i n j C g hf; omega
  | succ f ih =>
    intro i n j C g hf hi hn hjl hys hIg hCp hCq hgp hgq hF hC
    have c15 := run_spec tells_blank s (by omega) p i hi g hgp
    have hbl : ((s.drop i).takeWhile isBlank).length = blanks (s.drop i) := rfl
    have hble : blanks (s.drop i) ≤ s.length - i := by have := takeWhile_le (p := isBlank) (s.drop i); simp at this; exact this
    rw [hbl] at c15
    have hdd : (s.drop i).drop (blanks (s.drop i)) = s.drop (i + blanks (s.drop i)) := by rw [List.drop_drop]
    -- behind the blanks
    have hg1p : (g.set p (.box (cut s (i + blanks (s.drop i))))) p = some (.box (cut s (i + blanks (s.drop i)))) := AHeap.set_same _ _ _
    have hg1q : (g.set p (.box (cut s (i + blanks (s.drop i))))) q = some (.box [str s]) := (AHeap.set_other _ _ hqp).trans hgq
    have hI1 : I j C (g.set p (.box (cut s (i + blanks (s.drop i))))) := (hI j).loc C g _ hIg fun x hx => AHeap.set_other _ _ (fun e => hCp (e ▸ hx))
    have hF1 : ∀ x o, h0 x = some o → ¬ C0 x → (g.set p (.box (cut s (i + blanks (s.drop i))))) x = some o := fun x o e hn => by
      rw [AHeap.set_other _ _ (fun e' => by subst e'; rw [h0p] at e; cases e)]; exact hF x o e hn
    generalize hg1 : g.set p (.box (cut s (i + blanks (s.drop i)))) = g1 at c15 hg1p hg1q hI1 hF1
    have aft : ∀ (gy : AHeap) (C' : Nat → Prop) (h' : AHeap), (∀ x o, h0 x = some o → ¬ C0 x → gy x = some o) → (∀ x, C' x → C x ∨ gy x = none) → Foot C gy h' → (∀ x o, h0 x = some o → ¬ C0 x → h' x = some o) ∧ (∀ x, C' x → C0 x ∨ h0 x = none) := by
      intro gy C' h' f1 f2 f3
      refine ⟨fun x o e hn => f3 x o (f1 x o e hn) (fun hc => (hC x hc).elim hn (fun e' => by rw [e] at e'; cases e')), fun x hx => ?_⟩
      rcases f2 x hx with hc | hc
      · exact hC x hc
      · cases he : h0 x with
        | none => exact .inr rfl
        | some o =>
          by_cases h0x : C0 x
          · exact .inl h0x
          · have := f1 x o he h0x; rw [hc] at this; cases this
    refine RRun.inLoop ?_
    by_cases hE : i + blanks (s.drop i) = s.length
    · have ht : (s.drop i).drop (blanks (s.drop i)) = [] := by rw [hdd]; simp; omega
      rw [cutF_end ht] at hys
      have hlen : ys.length ≤ j := by
        have : (ys.drop j).length = 0 := by rw [hys]; rfl
        simp at this; omega
      repeat' (first | refine S.nilK ?_ | (refine S.op rfl ?_; first | refine callS rfl rfl c15 ?_ | refine S.lenS rfl ?_ | refine R.mv rfl ?_ | refine R.fieldAddr rfl ?_ | refine R.fieldAddrR rfl ?_ | refine R.nilCheck rfl ?_ | refine R.nilCheckR rfl ?_ | refine R.loadR rfl rfl ?_ | refine R.load (by decide) rfl (by (repeat' (first | assumption | exact AHeap.set_same _ _ _ | refine AHeap.get_fresh (by assumption) ?_ | refine AHeap.so ?_ ?_ | exact AHeap.n1 (by assumption) | exact AHeap.n2 (by assumption) | exact AHeap.ne_of (by assumption) (by assumption) | exact AHeap.n4 (by assumption) (by assumption) | exact AHeap.n5 (by assumption) | exact AHeap.n6 (by assumption) | exact AHeap.n7 (by assumption) (by assumption) | exact AHeap.n8 (by assumption) (by assumption))); first | done | fail) rfl ?_ | refine S.addI rfl rfl (by omega) ?_ | refine S.subI rfl rfl (by omega) ?_ | refine S.addU rfl rfl ?_ | refine S.subU rfl rfl ?_ | refine S.addUc rfl (by decide) ?_ | refine S.subUc rfl (by decide) ?_ | refine S.arith rfl rfl rfl ?_ | refine R.pickT rfl rfl ?_ | refine R.pickF rfl rfl ?_ | refine R.len rfl ?_ | refine R.lenA rfl ?_ | refine R.lenStr rfl ?_ | refine S.convIU rfl (by omega) ?_ | refine S.convUI rfl (by omega) ?_ | refine R.convInt rfl ?_ | refine R.not rfl ?_ | refine R.eqPtrNil rfl rfl ?_ | refine R.extract rfl rfl ?_ | refine R.field rfl rfl ?_ | refine R.alloc rfl (fun b hb => ?_) | refine R.box rfl rfl rfl (fun b hb => ?_) | refine R.build rfl rfl ?_ | refine R.buildSl rfl rfl rfl (by decide) ?_ | refine R.toStr rfl ?_ | refine R.convStr rfl ?_ | refine R.minmax rfl ?_ | refine R.makeFunc rfl rfl ?_ | (first | refine S.lss rfl rfl (fun hlt => ?_) (fun hlt => by exfalso; omega) | refine S.lss rfl rfl (fun hlt => by exfalso; omega) (fun hlt => ?_) | refine S.lss rfl rfl (fun hlt => ?_) (fun hlt => ?_)) | (first | refine S.gtr rfl rfl (fun hlt => ?_) (fun hlt => by exfalso; omega) | refine S.gtr rfl rfl (fun hlt => by exfalso; omega) (fun hlt => ?_) | refine S.gtr rfl rfl (fun hlt => ?_) (fun hlt => ?_)) | (first | refine S.leq rfl rfl (fun hlt => ?_) (fun hlt => by exfalso; omega) | refine S.leq rfl rfl (fun hlt => by exfalso; omega) (fun hlt => ?_) | refine S.leq rfl rfl (fun hlt => ?_) (fun hlt => ?_)) | (first | refine S.geq rfl rfl (fun hlt => ?_) (fun hlt => by exfalso; omega) | refine S.geq rfl rfl (fun hlt => by exfalso; omega) (fun hlt => ?_) | refine S.geq rfl rfl (fun hlt => ?_) (fun hlt => ?_)) | (first | refine S.eqInt rfl rfl (fun hlt => ?_) (fun hlt => by exfalso; omega) | refine S.eqInt rfl rfl (fun hlt => by exfalso; omega) (fun hlt => ?_) | refine S.eqInt rfl rfl (fun hlt => ?_) (fun hlt => ?_))) | (refine S.op0 rfl ?_; first | refine S.storeS rfl rfl rfl (by rfl) rfl (by first | decide | exact Nat.le_refl _ | exact Nat.le_of_ble_eq_true rfl) ?_ | refine S.store rfl rfl (by (repeat' (first | assumption | exact AHeap.set_same _ _ _ | refine AHeap.get_fresh (by assumption) ?_ | refine AHeap.so ?_ ?_ | exact AHeap.n1 (by assumption) | exact AHeap.n2 (by assumption) | exact AHeap.ne_of (by assumption) (by assumption) | exact AHeap.n4 (by assumption) (by assumption) | exact AHeap.n5 (by assumption) | exact AHeap.n6 (by assumption) | exact AHeap.n7 (by assumption) (by assumption) | exact AHeap.n8 (by assumption) (by assumption))); first | done | fail) rfl rfl rfl (by rfl) rfl ?_) | refine S.skip rfl ?_ | refine S.skip0 rfl ?_ | refine S.seq ?_ | refine S.region ?_ | refine S.regionT ?_ | refine S.tstep ?_ | refine S.talt ?_ ?_ | exact S.tstop | refine S.tdone ?_ | refine S.condT rfl ?_ | refine S.condF rfl ?_ | refine RRun.skip ?_ | refine RRun.block ?_ | refine RRun.inBlock ?_ | refine RRun.exit rfl ?_)
      apply S.done rr14
      case hx => repeat (first | exact ResAt.nil | apply ResAt.tmp rfl | apply ResAt.cellA rfl (by (repeat' (first | assumption | exact AHeap.set_same _ _ _ | refine AHeap.get_fresh (by assumption) ?_ | refine AHeap.so ?_ ?_ | exact AHeap.n1 (by assumption) | exact AHeap.n2 (by assumption) | exact AHeap.ne_of (by assumption) (by assumption) | exact AHeap.n4 (by assumption) (by assumption) | exact AHeap.n5 (by assumption) | exact AHeap.n6 (by assumption) | exact AHeap.n7 (by assumption) (by assumption) | exact AHeap.n8 (by assumption) (by assumption))); first | done | fail) (by rfl) | apply ResAt.cell1 rfl (by (repeat' (first | assumption | exact AHeap.set_same _ _ _ | refine AHeap.get_fresh (by assumption) ?_ | refine AHeap.so ?_ ?_ | exact AHeap.n1 (by assumption) | exact AHeap.n2 (by assumption) | exact AHeap.ne_of (by assumption) (by assumption) | exact AHeap.n4 (by assumption) (by assumption) | exact AHeap.n5 (by assumption) | exact AHeap.n6 (by assumption) | exact AHeap.n7 (by assumption) (by assumption) | exact AHeap.n8 (by assumption) (by assumption))); first | done | fail) (by rfl))
      exact hQ C _ (.inl (by rw [show ys.length = j by omega]; exact hI1)) hF1 hC
    have hne : (s.drop i).drop (blanks (s.drop i)) ≠ [] := by rw [hdd]; simp; omega
    by_cases hn4 : n = 400
    · subst hn4
      rw [cutF_long hne rfl] at hys
      have hj : ys[j]? = some [.ag (errTok (i + blanks (s.drop i))).cells, i64 2] := by
        have : (ys.drop j)[0]? = some [.ag (errTok (i + blanks (s.drop i))).cells, i64 2] := by rw [hys]; rfl
        simpa using this
      have hlen : ys.length ≤ j + 1 := by
        have : (ys.drop j).length = 1 := by rw [hys]; rfl
        simp at this; omega
      have hjlt : j < ys.length := (List.getElem?_eq_some_iff.1 hj).1
      repeat' (first | refine S.nilK ?_ | (refine S.op rfl ?_; first | refine callS rfl rfl c15 ?_ | refine S.lenS rfl ?_ | refine R.mv rfl ?_ | refine R.fieldAddr rfl ?_ | refine R.fieldAddrR rfl ?_ | refine R.nilCheck rfl ?_ | refine R.nilCheckR rfl ?_ | refine R.loadR rfl rfl ?_ | refine R.load (by decide) rfl (by (repeat' (first | assumption | exact AHeap.set_same _ _ _ | refine AHeap.get_fresh (by assumption) ?_ | refine AHeap.so ?_ ?_ | exact AHeap.n1 (by assumption) | exact AHeap.n2 (by assumption) | exact AHeap.ne_of (by assumption) (by assumption) | exact AHeap.n4 (by assumption) (by assumption) | exact AHeap.n5 (by assumption) | exact AHeap.n6 (by assumption) | exact AHeap.n7 (by assumption) (by assumption) | exact AHeap.n8 (by assumption) (by assumption))); first | done | fail) rfl ?_ | refine S.addI rfl rfl (by omega) ?_ | refine S.subI rfl rfl (by omega) ?_ | refine S.addU rfl rfl ?_ | refine S.subU rfl rfl ?_ | refine S.addUc rfl (by decide) ?_ | refine S.subUc rfl (by decide) ?_ | refine S.arith rfl rfl rfl ?_ | refine R.pickT rfl rfl ?_ | refine R.pickF rfl rfl ?_ | refine R.len rfl ?_ | refine R.lenA rfl ?_ | refine R.lenStr rfl ?_ | refine S.convIU rfl (by omega) ?_ | refine S.convUI rfl (by omega) ?_ | refine R.convInt rfl ?_ | refine R.not rfl ?_ | refine R.eqPtrNil rfl rfl ?_ | refine R.extract rfl rfl ?_ | refine R.field rfl rfl ?_ | refine R.alloc rfl (fun b hb => ?_) | refine R.box rfl rfl rfl (fun b hb => ?_) | refine R.build rfl rfl ?_ | refine R.buildSl rfl rfl rfl (by decide) ?_ | refine R.toStr rfl ?_ | refine R.convStr rfl ?_ | refine R.minmax rfl ?_ | refine R.makeFunc rfl rfl ?_ | (first | refine S.lss rfl rfl (fun hlt => ?_) (fun hlt => by exfalso; omega) | refine S.lss rfl rfl (fun hlt => by exfalso; omega) (fun hlt => ?_) | refine S.lss rfl rfl (fun hlt => ?_) (fun hlt => ?_)) | (first | refine S.gtr rfl rfl (fun hlt => ?_) (fun hlt => by exfalso; omega) | refine S.gtr rfl rfl (fun hlt => by exfalso; omega) (fun hlt => ?_) | refine S.gtr rfl rfl (fun hlt => ?_) (fun hlt => ?_)) | (first | refine S.leq rfl rfl (fun hlt => ?_) (fun hlt => by exfalso; omega) | refine S.leq rfl rfl (fun hlt => by exfalso; omega) (fun hlt => ?_) | refine S.leq rfl rfl (fun hlt => ?_) (fun hlt => ?_)) | (first | refine S.geq rfl rfl (fun hlt => ?_) (fun hlt => by exfalso; omega) | refine S.geq rfl rfl (fun hlt => by exfalso; omega) (fun hlt => ?_) | refine S.geq rfl rfl (fun hlt => ?_) (fun hlt => ?_)) | (first | refine S.eqInt rfl rfl (fun hlt => ?_) (fun hlt => by exfalso; omega) | refine S.eqInt rfl rfl (fun hlt => by exfalso; omega) (fun hlt => ?_) | refine S.eqInt rfl rfl (fun hlt => ?_) (fun hlt => ?_))) | (refine S.op0 rfl ?_; first | refine S.storeS rfl rfl rfl (by rfl) rfl (by first | decide | exact Nat.le_refl _ | exact Nat.le_of_ble_eq_true rfl) ?_ | refine S.store rfl rfl (by (repeat' (first | assumption | exact AHeap.set_same _ _ _ | refine AHeap.get_fresh (by assumption) ?_ | refine AHeap.so ?_ ?_ | exact AHeap.n1 (by assumption) | exact AHeap.n2 (by assumption) | exact AHeap.ne_of (by assumption) (by assumption) | exact AHeap.n4 (by assumption) (by assumption) | exact AHeap.n5 (by assumption) | exact AHeap.n6 (by assumption) | exact AHeap.n7 (by assumption) (by assumption) | exact AHeap.n8 (by assumption) (by assumption))); first | done | fail) rfl rfl rfl (by rfl) rfl ?_) | refine S.skip rfl ?_ | refine S.skip0 rfl ?_ | refine S.seq ?_ | refine S.region ?_ | refine S.regionT ?_ | refine S.tstep ?_ | refine S.talt ?_ ?_ | exact S.tstop | refine S.tdone ?_ | refine S.condT rfl ?_ | refine S.condF rfl ?_ | refine RRun.skip ?_ | refine RRun.block ?_ | refine RRun.inBlock ?_ | refine RRun.exit rfl ?_)
      refine S.op rfl (R.yield rfl rfl rfl ((hy j _ hj C _ hI1).mono ?_))
      rintro bb h' ⟨C', hC', hft, hbb⟩
      obtain ⟨a1, a2⟩ := aft _ C' h' hF1 hC' hft
      repeat' (first | refine S.nilK ?_ | (refine S.op rfl ?_; first | refine R.mv rfl ?_ | refine R.fieldAddr rfl ?_ | refine R.fieldAddrR rfl ?_ | refine R.nilCheck rfl ?_ | refine R.nilCheckR rfl ?_ | refine R.loadR rfl rfl ?_ | refine R.load (by decide) rfl (by (repeat' (first | assumption | exact AHeap.set_same _ _ _ | refine AHeap.get_fresh (by assumption) ?_ | refine AHeap.so ?_ ?_ | exact AHeap.n1 (by assumption) | exact AHeap.n2 (by assumption) | exact AHeap.ne_of (by assumption) (by assumption) | exact AHeap.n4 (by assumption) (by assumption) | exact AHeap.n5 (by assumption) | exact AHeap.n6 (by assumption) | exact AHeap.n7 (by assumption) (by assumption) | exact AHeap.n8 (by assumption) (by assumption))); first | done | fail) rfl ?_ | refine S.addI rfl rfl (by omega) ?_ | refine S.subI rfl rfl (by omega) ?_ | refine S.addU rfl rfl ?_ | refine S.subU rfl rfl ?_ | refine S.addUc rfl (by decide) ?_ | refine S.subUc rfl (by decide) ?_ | refine S.arith rfl rfl rfl ?_ | refine R.pickT rfl rfl ?_ | refine R.pickF rfl rfl ?_ | refine R.len rfl ?_ | refine R.lenA rfl ?_ | refine R.lenStr rfl ?_ | refine S.convIU rfl (by omega) ?_ | refine S.convUI rfl (by omega) ?_ | refine R.convInt rfl ?_ | refine R.not rfl ?_ | refine R.eqPtrNil rfl rfl ?_ | refine R.extract rfl rfl ?_ | refine R.field rfl rfl ?_ | refine R.alloc rfl (fun b hb => ?_) | refine R.box rfl rfl rfl (fun b hb => ?_) | refine R.build rfl rfl ?_ | refine R.buildSl rfl rfl rfl (by decide) ?_ | refine R.toStr rfl ?_ | refine R.convStr rfl ?_ | refine R.minmax rfl ?_ | refine R.makeFunc rfl rfl ?_ | (first | refine S.lss rfl rfl (fun hlt => ?_) (fun hlt => by exfalso; omega) | refine S.lss rfl rfl (fun hlt => by exfalso; omega) (fun hlt => ?_) | refine S.lss rfl rfl (fun hlt => ?_) (fun hlt => ?_)) | (first | refine S.gtr rfl rfl (fun hlt => ?_) (fun hlt => by exfalso; omega) | refine S.gtr rfl rfl (fun hlt => by exfalso; omega) (fun hlt => ?_) | refine S.gtr rfl rfl (fun hlt => ?_) (fun hlt => ?_)) | (first | refine S.leq rfl rfl (fun hlt => ?_) (fun hlt => by exfalso; omega) | refine S.leq rfl rfl (fun hlt => by exfalso; omega) (fun hlt => ?_) | refine S.leq rfl rfl (fun hlt => ?_) (fun hlt => ?_)) | (first | refine S.geq rfl rfl (fun hlt => ?_) (fun hlt => by exfalso; omega) | refine S.geq rfl rfl (fun hlt => by exfalso; omega) (fun hlt => ?_) | refine S.geq rfl rfl (fun hlt => ?_) (fun hlt => ?_)) | (first | refine S.eqInt rfl rfl (fun hlt => ?_) (fun hlt => by exfalso; omega) | refine S.eqInt rfl rfl (fun hlt => by exfalso; omega) (fun hlt => ?_) | refine S.eqInt rfl rfl (fun hlt => ?_) (fun hlt => ?_))) | (refine S.op0 rfl ?_; first | refine S.storeS rfl rfl rfl (by rfl) rfl (by first | decide | exact Nat.le_refl _ | exact Nat.le_of_ble_eq_true rfl) ?_ | refine S.store rfl rfl (by (repeat' (first | assumption | exact AHeap.set_same _ _ _ | refine AHeap.get_fresh (by assumption) ?_ | refine AHeap.so ?_ ?_ | exact AHeap.n1 (by assumption) | exact AHeap.n2 (by assumption) | exact AHeap.ne_of (by assumption) (by assumption) | exact AHeap.n4 (by assumption) (by assumption) | exact AHeap.n5 (by assumption) | exact AHeap.n6 (by assumption) | exact AHeap.n7 (by assumption) (by assumption) | exact AHeap.n8 (by assumption) (by assumption))); first | done | fail) rfl rfl rfl (by rfl) rfl ?_) | refine S.skip rfl ?_ | refine S.skip0 rfl ?_ | refine S.seq ?_ | refine S.region ?_ | refine S.regionT ?_ | refine S.tstep ?_ | refine S.talt ?_ ?_ | exact S.tstop | refine S.tdone ?_ | refine S.condT rfl ?_ | refine S.condF rfl ?_ | refine RRun.skip ?_ | refine RRun.block ?_ | refine RRun.inBlock ?_ | refine RRun.exit rfl ?_)
      apply S.ret rr14
      case hx => repeat (first | exact ResAt.nil | apply ResAt.tmp rfl | apply ResAt.cellA rfl (by (repeat' (first | assumption | exact AHeap.set_same _ _ _ | refine AHeap.get_fresh (by assumption) ?_ | refine AHeap.so ?_ ?_ | exact AHeap.n1 (by assumption) | exact AHeap.n2 (by assumption) | exact AHeap.ne_of (by assumption) (by assumption) | exact AHeap.n4 (by assumption) (by assumption) | exact AHeap.n5 (by assumption) | exact AHeap.n6 (by assumption) | exact AHeap.n7 (by assumption) (by assumption) | exact AHeap.n8 (by assumption) (by assumption))); first | done | fail) (by rfl) | apply ResAt.cell1 rfl (by (repeat' (first | assumption | exact AHeap.set_same _ _ _ | refine AHeap.get_fresh (by assumption) ?_ | refine AHeap.so ?_ ?_ | exact AHeap.n1 (by assumption) | exact AHeap.n2 (by assumption) | exact AHeap.ne_of (by assumption) (by assumption) | exact AHeap.n4 (by assumption) (by assumption) | exact AHeap.n5 (by assumption) | exact AHeap.n6 (by assumption) | exact AHeap.n7 (by assumption) (by assumption) | exact AHeap.n8 (by assumption) (by assumption))); first | done | fail) (by rfl))
      refine hQ C' _ ?_ a1 a2
      cases bb
      · exact .inr hbb
      · exact .inl (by rw [show ys.length = j + 1 by omega]; exact hbb)
    have c17 := next_spec s hs p (i + blanks (s.drop i)) (by omega) _ hg1p
    rw [← hdd] at c17
    cases hok : (nextR ((s.drop i).drop (blanks (s.drop i)))).2.1 with
    | false =>
      rw [cutF_bad hne hn4 hok] at hys
      rw [hok] at c17
      have hj : ys[j]? = some [.ag (errTok (i + blanks (s.drop i))).cells, i64 190] := by
        have : (ys.drop j)[0]? = some [.ag (errTok (i + blanks (s.drop i))).cells, i64 190] := by rw [hys]; rfl
        simpa using this
      have hlen : ys.length ≤ j + 1 := by
        have : (ys.drop j).length = 1 := by rw [hys]; rfl
        simp at this; omega
      have hjlt : j < ys.length := (List.getElem?_eq_some_iff.1 hj).1
      repeat' (first | refine S.nilK ?_ | (refine S.op rfl ?_; first | refine callS rfl rfl c15 ?_ | refine S.lenS rfl ?_ | refine callS rfl rfl c17 ?_ | refine R.mv rfl ?_ | refine R.fieldAddr rfl ?_ | refine R.fieldAddrR rfl ?_ | refine R.nilCheck rfl ?_ | refine R.nilCheckR rfl ?_ | refine R.loadR rfl rfl ?_ | refine R.load (by decide) rfl (by (repeat' (first | assumption | exact AHeap.set_same _ _ _ | refine AHeap.get_fresh (by assumption) ?_ | refine AHeap.so ?_ ?_ | exact AHeap.n1 (by assumption) | exact AHeap.n2 (by assumption) | exact AHeap.ne_of (by assumption) (by assumption) | exact AHeap.n4 (by assumption) (by assumption) | exact AHeap.n5 (by assumption) | exact AHeap.n6 (by assumption) | exact AHeap.n7 (by assumption) (by assumption) | exact AHeap.n8 (by assumption) (by assumption))); first | done | fail) rfl ?_ | refine S.addI rfl rfl (by omega) ?_ | refine S.subI rfl rfl (by omega) ?_ | refine S.addU rfl rfl ?_ | refine S.subU rfl rfl ?_ | refine S.addUc rfl (by decide) ?_ | refine S.subUc rfl (by decide) ?_ | refine S.arith rfl rfl rfl ?_ | refine R.pickT rfl rfl ?_ | refine R.pickF rfl rfl ?_ | refine R.len rfl ?_ | refine R.lenA rfl ?_ | refine R.lenStr rfl ?_ | refine S.convIU rfl (by omega) ?_ | refine S.convUI rfl (by omega) ?_ | refine R.convInt rfl ?_ | refine R.not rfl ?_ | refine R.eqPtrNil rfl rfl ?_ | refine R.extract rfl rfl ?_ | refine R.field rfl rfl ?_ | refine R.alloc rfl (fun b hb => ?_) | refine R.box rfl rfl rfl (fun b hb => ?_) | refine R.build rfl rfl ?_ | refine R.buildSl rfl rfl rfl (by decide) ?_ | refine R.toStr rfl ?_ | refine R.convStr rfl ?_ | refine R.minmax rfl ?_ | refine R.makeFunc rfl rfl ?_ | (first | refine S.lss rfl rfl (fun hlt => ?_) (fun hlt => by exfalso; omega) | refine S.lss rfl rfl (fun hlt => by exfalso; omega) (fun hlt => ?_) | refine S.lss rfl rfl (fun hlt => ?_) (fun hlt => ?_)) | (first | refine S.gtr rfl rfl (fun hlt => ?_) (fun hlt => by exfalso; omega) | refine S.gtr rfl rfl (fun hlt => by exfalso; omega) (fun hlt => ?_) | refine S.gtr rfl rfl (fun hlt => ?_) (fun hlt => ?_)) | (first | refine S.leq rfl rfl (fun hlt => ?_) (fun hlt => by exfalso; omega) | refine S.leq rfl rfl (fun hlt => by exfalso; omega) (fun hlt => ?_) | refine S.leq rfl rfl (fun hlt => ?_) (fun hlt => ?_)) | (first | refine S.geq rfl rfl (fun hlt => ?_) (fun hlt => by exfalso; omega) | refine S.geq rfl rfl (fun hlt => by exfalso; omega) (fun hlt => ?_) | refine S.geq rfl rfl (fun hlt => ?_) (fun hlt => ?_)) | (first | refine S.eqInt rfl rfl (fun hlt => ?_) (fun hlt => by exfalso; omega) | refine S.eqInt rfl rfl (fun hlt => by exfalso; omega) (fun hlt => ?_) | refine S.eqInt rfl rfl (fun hlt => ?_) (fun hlt => ?_))) | (refine S.op0 rfl ?_; first | refine S.storeS rfl rfl rfl (by rfl) rfl (by first | decide | exact Nat.le_refl _ | exact Nat.le_of_ble_eq_true rfl) ?_ | refine S.store rfl rfl (by (repeat' (first | assumption | exact AHeap.set_same _ _ _ | refine AHeap.get_fresh (by assumption) ?_ | refine AHeap.so ?_ ?_ | exact AHeap.n1 (by assumption) | exact AHeap.n2 (by assumption) | exact AHeap.ne_of (by assumption) (by assumption) | exact AHeap.n4 (by assumption) (by assumption) | exact AHeap.n5 (by assumption) | exact AHeap.n6 (by assumption) | exact AHeap.n7 (by assumption) (by assumption) | exact AHeap.n8 (by assumption) (by assumption))); first | done | fail) rfl rfl rfl (by rfl) rfl ?_) | refine S.skip rfl ?_ | refine S.skip0 rfl ?_ | refine S.seq ?_ | refine S.region ?_ | refine S.regionT ?_ | refine S.tstep ?_ | refine S.talt ?_ ?_ | exact S.tstop | refine S.tdone ?_ | refine S.condT rfl ?_ | refine S.condF rfl ?_ | refine RRun.skip ?_ | refine RRun.block ?_ | refine RRun.inBlock ?_ | refine RRun.exit rfl ?_)
      have hb1 : g1 b = none := AHeap.z1 hb
      have hbp : b ≠ p := AHeap.n1 hb
      have hqb : q ≠ b := fun e => by rw [e, hb1] at hg1q; cases hg1q
      have hCx : ∀ x, C x → x ≠ b ∧ x ≠ p := fun x hx => ⟨fun e => (hI j).own C g1 hI1 x hx (e ▸ hb1), fun e => hCp (e ▸ hx)⟩
      refine S.op rfl (R.yield rfl rfl rfl ((hy j _ hj C _ ?_).mono ?_))
      · exact (hI j).loc C g1 _ hI1 fun x hx => by simp only [AHeap.set, (hCx x hx).1, (hCx x hx).2, if_false]
      rintro bb h' ⟨C', hC', hft, hbb⟩
      obtain ⟨a1, a2⟩ := aft _ C' h' (fun x o e hn => by
        have h1 := hF1 x o e hn
        have hxb : x ≠ b := fun e' => by subst e'; rw [hb1] at h1; cases h1
        have hxp : x ≠ p := fun e' => by subst e'; rw [h0p] at e; cases e
        simp only [AHeap.set, hxb, hxp, if_false]; exact h1) (fun x hx => hC' x hx) hft
      repeat' (first | refine S.nilK ?_ | (refine S.op rfl ?_; first | refine R.mv rfl ?_ | refine R.fieldAddr rfl ?_ | refine R.fieldAddrR rfl ?_ | refine R.nilCheck rfl ?_ | refine R.nilCheckR rfl ?_ | refine R.loadR rfl rfl ?_ | refine R.load (by decide) rfl (by (repeat' (first | assumption | exact AHeap.set_same _ _ _ | refine AHeap.get_fresh (by assumption) ?_ | refine AHeap.so ?_ ?_ | exact AHeap.n1 (by assumption) | exact AHeap.n2 (by assumption) | exact AHeap.ne_of (by assumption) (by assumption) | exact AHeap.n4 (by assumption) (by assumption) | exact AHeap.n5 (by assumption) | exact AHeap.n6 (by assumption) | exact AHeap.n7 (by assumption) (by assumption) | exact AHeap.n8 (by assumption) (by assumption))); first | done | fail) rfl ?_ | refine S.addI rfl rfl (by omega) ?_ | refine S.subI rfl rfl (by omega) ?_ | refine S.addU rfl rfl ?_ | refine S.subU rfl rfl ?_ | refine S.addUc rfl (by decide) ?_ | refine S.subUc rfl (by decide) ?_ | refine S.arith rfl rfl rfl ?_ | refine R.pickT rfl rfl ?_ | refine R.pickF rfl rfl ?_ | refine R.len rfl ?_ | refine R.lenA rfl ?_ | refine R.lenStr rfl ?_ | refine S.convIU rfl (by omega) ?_ | refine S.convUI rfl (by omega) ?_ | refine R.convInt rfl ?_ | refine R.not rfl ?_ | refine R.eqPtrNil rfl rfl ?_ | refine R.extract rfl rfl ?_ | refine R.field rfl rfl ?_ | refine R.alloc rfl (fun b hb => ?_) | refine R.box rfl rfl rfl (fun b hb => ?_) | refine R.build rfl rfl ?_ | refine R.buildSl rfl rfl rfl (by decide) ?_ | refine R.toStr rfl ?_ | refine R.convStr rfl ?_ | refine R.minmax rfl ?_ | refine R.makeFunc rfl rfl ?_ | (first | refine S.lss rfl rfl (fun hlt => ?_) (fun hlt => by exfalso; omega) | refine S.lss rfl rfl (fun hlt => by exfalso; omega) (fun hlt => ?_) | refine S.lss rfl rfl (fun hlt => ?_) (fun hlt => ?_)) | (first | refine S.gtr rfl rfl (fun hlt => ?_) (fun hlt => by exfalso; omega) | refine S.gtr rfl rfl (fun hlt => by exfalso; omega) (fun hlt => ?_) | refine S.gtr rfl rfl (fun hlt => ?_) (fun hlt => ?_)) | (first | refine S.leq rfl rfl (fun hlt => ?_) (fun hlt => by exfalso; omega) | refine S.leq rfl rfl (fun hlt => by exfalso; omega) (fun hlt => ?_) | refine S.leq rfl rfl (fun hlt => ?_) (fun hlt => ?_)) | (first | refine S.geq rfl rfl (fun hlt => ?_) (fun hlt => by exfalso; omega) | refine S.geq rfl rfl (fun hlt => by exfalso; omega) (fun hlt => ?_) | refine S.geq rfl rfl (fun hlt => ?_) (fun hlt => ?_)) | (first | refine S.eqInt rfl rfl (fun hlt => ?_) (fun hlt => by exfalso; omega) | refine S.eqInt rfl rfl (fun hlt => by exfalso; omega) (fun hlt => ?_) | refine S.eqInt rfl rfl (fun hlt => ?_) (fun hlt => ?_))) | (refine S.op0 rfl ?_; first | refine S.storeS rfl rfl rfl (by rfl) rfl (by first | decide | exact Nat.le_refl _ | exact Nat.le_of_ble_eq_true rfl) ?_ | refine S.store rfl rfl (by (repeat' (first | assumption | exact AHeap.set_same _ _ _ | refine AHeap.get_fresh (by assumption) ?_ | refine AHeap.so ?_ ?_ | exact AHeap.n1 (by assumption) | exact AHeap.n2 (by assumption) | exact AHeap.ne_of (by assumption) (by assumption) | exact AHeap.n4 (by assumption) (by assumption) | exact AHeap.n5 (by assumption) | exact AHeap.n6 (by assumption) | exact AHeap.n7 (by assumption) (by assumption) | exact AHeap.n8 (by assumption) (by assumption))); first | done | fail) rfl rfl rfl (by rfl) rfl ?_) | refine S.skip rfl ?_ | refine S.skip0 rfl ?_ | refine S.seq ?_ | refine S.region ?_ | refine S.regionT ?_ | refine S.tstep ?_ | refine S.talt ?_ ?_ | exact S.tstop | refine S.tdone ?_ | refine S.condT rfl ?_ | refine S.condF rfl ?_ | refine RRun.skip ?_ | refine RRun.block ?_ | refine RRun.inBlock ?_ | refine RRun.exit rfl ?_)
      apply S.ret rr14
      case hx => repeat (first | exact ResAt.nil | apply ResAt.tmp rfl | apply ResAt.cellA rfl (by (repeat' (first | assumption | exact AHeap.set_same _ _ _ | refine AHeap.get_fresh (by assumption) ?_ | refine AHeap.so ?_ ?_ | exact AHeap.n1 (by assumption) | exact AHeap.n2 (by assumption) | exact AHeap.ne_of (by assumption) (by assumption) | exact AHeap.n4 (by assumption) (by assumption) | exact AHeap.n5 (by assumption) | exact AHeap.n6 (by assumption) | exact AHeap.n7 (by assumption) (by assumption) | exact AHeap.n8 (by assumption) (by assumption))); first | done | fail) (by rfl) | apply ResAt.cell1 rfl (by (repeat' (first | assumption | exact AHeap.set_same _ _ _ | refine AHeap.get_fresh (by assumption) ?_ | refine AHeap.so ?_ ?_ | exact AHeap.n1 (by assumption) | exact AHeap.n2 (by assumption) | exact AHeap.ne_of (by assumption) (by assumption) | exact AHeap.n4 (by assumption) (by assumption) | exact AHeap.n5 (by assumption) | exact AHeap.n6 (by assumption) | exact AHeap.n7 (by assumption) (by assumption) | exact AHeap.n8 (by assumption) (by assumption))); first | done | fail) (by rfl))
      refine hQ C' _ ?_ a1 a2
      cases bb
      · exact .inr hbb
      · exact .inl (by rw [show ys.length = j + 1 by omega]; exact hbb)
    | true =>
      rw [cutF_tok hne hn4 hok] at hys
      rw [hok] at c17
      obtain ⟨k1, k2⟩ := nextR_len _ hne
      have k2 := k2 hok
      have hle2 : ((s.drop i).drop (blanks (s.drop i))).length = s.length - (i + blanks (s.drop i)) := by rw [hdd]; simp
      have hd3 : ((s.drop i).drop (blanks (s.drop i))).drop (nextR ((s.drop i).drop (blanks (s.drop i)))).2.2 = s.drop (i + blanks (s.drop i) + (nextR ((s.drop i).drop (blanks (s.drop i)))).2.2) := by rw [hdd, List.drop_drop]
      rw [hd3] at hys
      generalize hm : (nextR ((s.drop i).drop (blanks (s.drop i)))).2.2 = m at *
      generalize hT : (nextR ((s.drop i).drop (blanks (s.drop i)))).1 = T at *
      have hys' : ys.drop j = [.ag ({ T with pos := (i + blanks (s.drop i) : Nat) } : Tok).cells, i64 0] :: yields (cutF f (s.drop (i + blanks (s.drop i) + m)) (i + blanks (s.drop i) + m) (n + 1)) := hys
      have hj : ys[j]? = some [.ag ({ T with pos := (i + blanks (s.drop i) : Nat) } : Tok).cells, i64 0] := by
        have : (ys.drop j)[0]? = some [.ag ({ T with pos := (i + blanks (s.drop i) : Nat) } : Tok).cells, i64 0] := by rw [hys']; rfl
        simpa using this
      have hjlt : j < ys.length := (List.getElem?_eq_some_iff.1 hj).1
      have hrest : ys.drop (j + 1) = yields (cutF f (s.drop (i + blanks (s.drop i) + m)) (i + blanks (s.drop i) + m) (n + 1)) := by
        rw [show j + 1 = j + 1 from rfl, ← List.drop_drop, hys']; rfl
      have c17' : ACalls Try.prog 17 [ptr p] g1 (fun x h' => x = .tu [.ag T.cells, bl true] ∧ h' = g1.set p (.box (cut s (i + blanks (s.drop i) + m)))) := c17
      repeat' (first | refine S.nilK ?_ | (refine S.op rfl ?_; first | refine callS rfl rfl c15 ?_ | refine S.lenS rfl ?_ | refine callS rfl rfl c17' ?_ | refine R.mv rfl ?_ | refine R.fieldAddr rfl ?_ | refine R.fieldAddrR rfl ?_ | refine R.nilCheck rfl ?_ | refine R.nilCheckR rfl ?_ | refine R.loadR rfl rfl ?_ | refine R.load (by decide) rfl (by (repeat' (first | assumption | exact AHeap.set_same _ _ _ | refine AHeap.get_fresh (by assumption) ?_ | refine AHeap.so ?_ ?_ | exact AHeap.n1 (by assumption) | exact AHeap.n2 (by assumption) | exact AHeap.ne_of (by assumption) (by assumption) | exact AHeap.n4 (by assumption) (by assumption) | exact AHeap.n5 (by assumption) | exact AHeap.n6 (by assumption) | exact AHeap.n7 (by assumption) (by assumption) | exact AHeap.n8 (by assumption) (by assumption))); first | done | fail) rfl ?_ | refine S.addI rfl rfl (by omega) ?_ | refine S.subI rfl rfl (by omega) ?_ | refine S.addU rfl rfl ?_ | refine S.subU rfl rfl ?_ | refine S.addUc rfl (by decide) ?_ | refine S.subUc rfl (by decide) ?_ | refine S.arith rfl rfl rfl ?_ | refine R.pickT rfl rfl ?_ | refine R.pickF rfl rfl ?_ | refine R.len rfl ?_ | refine R.lenA rfl ?_ | refine R.lenStr rfl ?_ | refine S.convIU rfl (by omega) ?_ | refine S.convUI rfl (by omega) ?_ | refine R.convInt rfl ?_ | refine R.not rfl ?_ | refine R.eqPtrNil rfl rfl ?_ | refine R.extract rfl rfl ?_ | refine R.field rfl rfl ?_ | refine R.alloc rfl (fun b hb => ?_) | refine R.box rfl rfl rfl (fun b hb => ?_) | refine R.build rfl rfl ?_ | refine R.buildSl rfl rfl rfl (by decide) ?_ | refine R.toStr rfl ?_ | refine R.convStr rfl ?_ | refine R.minmax rfl ?_ | refine R.makeFunc rfl rfl ?_ | (first | refine S.lss rfl rfl (fun hlt => ?_) (fun hlt => by exfalso; omega) | refine S.lss rfl rfl (fun hlt => by exfalso; omega) (fun hlt => ?_) | refine S.lss rfl rfl (fun hlt => ?_) (fun hlt => ?_)) | (first | refine S.gtr rfl rfl (fun hlt => ?_) (fun hlt => by exfalso; omega) | refine S.gtr rfl rfl (fun hlt => by exfalso; omega) (fun hlt => ?_) | refine S.gtr rfl rfl (fun hlt => ?_) (fun hlt => ?_)) | (first | refine S.leq rfl rfl (fun hlt => ?_) (fun hlt => by exfalso; omega) | refine S.leq rfl rfl (fun hlt => by exfalso; omega) (fun hlt => ?_) | refine S.leq rfl rfl (fun hlt => ?_) (fun hlt => ?_)) | (first | refine S.geq rfl rfl (fun hlt => ?_) (fun hlt => by exfalso; omega) | refine S.geq rfl rfl (fun hlt => by exfalso; omega) (fun hlt => ?_) | refine S.geq rfl rfl (fun hlt => ?_) (fun hlt => ?_)) | (first | refine S.eqInt rfl rfl (fun hlt => ?_) (fun hlt => by exfalso; omega) | refine S.eqInt rfl rfl (fun hlt => by exfalso; omega) (fun hlt => ?_) | refine S.eqInt rfl rfl (fun hlt => ?_) (fun hlt => ?_))) | (refine S.op0 rfl ?_; first | refine S.storeS rfl rfl rfl (by rfl) rfl (by first | decide | exact Nat.le_refl _ | exact Nat.le_of_ble_eq_true rfl) ?_ | refine S.store rfl rfl (by (repeat' (first | assumption | exact AHeap.set_same _ _ _ | refine AHeap.get_fresh (by assumption) ?_ | refine AHeap.so ?_ ?_ | exact AHeap.n1 (by assumption) | exact AHeap.n2 (by assumption) | exact AHeap.ne_of (by assumption) (by assumption) | exact AHeap.n4 (by assumption) (by assumption) | exact AHeap.n5 (by assumption) | exact AHeap.n6 (by assumption) | exact AHeap.n7 (by assumption) (by assumption) | exact AHeap.n8 (by assumption) (by assumption))); first | done | fail) rfl rfl rfl (by rfl) rfl ?_) | refine S.skip rfl ?_ | refine S.skip0 rfl ?_ | refine S.seq ?_ | refine S.region ?_ | refine S.regionT ?_ | refine S.tstep ?_ | refine S.talt ?_ ?_ | exact S.tstop | refine S.tdone ?_ | refine S.condT rfl ?_ | refine S.condF rfl ?_ | refine RRun.skip ?_ | refine RRun.block ?_ | refine RRun.inBlock ?_ | refine RRun.exit rfl ?_)
      have hb1 : g1 b = none := AHeap.z1 hb
      have hbp : b ≠ p := AHeap.n1 hb
      have hqb : q ≠ b := fun e => by rw [e, hb1] at hg1q; cases hg1q
      have hCx : ∀ x, C x → x ≠ b ∧ x ≠ p := fun x hx => ⟨fun e => (hI j).own C g1 hI1 x hx (e ▸ hb1), fun e => hCp (e ▸ hx)⟩
      refine S.op rfl (R.yield rfl rfl rfl ((hy j _ hj C _ ?_).mono ?_))
      · exact (hI j).loc C g1 _ hI1 fun x hx => by simp only [AHeap.set, (hCx x hx).1, (hCx x hx).2, if_false]
      rintro bb h' ⟨C', hC', hft, hbb⟩
      obtain ⟨a1, a2⟩ := aft _ C' h' (fun x o e hn => by
        have h1 := hF1 x o e hn
        have hxb : x ≠ b := fun e' => by subst e'; rw [hb1] at h1; cases h1
        have hxp : x ≠ p := fun e' => by subst e'; rw [h0p] at e; cases e
        simp only [AHeap.set, hxb, hxp, if_false]; exact h1) hC' hft
      cases bb with
      | false =>
        repeat' (first | refine S.nilK ?_ | (refine S.op rfl ?_; first | refine R.mv rfl ?_ | refine R.fieldAddr rfl ?_ | refine R.fieldAddrR rfl ?_ | refine R.nilCheck rfl ?_ | refine R.nilCheckR rfl ?_ | refine R.loadR rfl rfl ?_ | refine R.load (by decide) rfl (by (repeat' (first | assumption | exact AHeap.set_same _ _ _ | refine AHeap.get_fresh (by assumption) ?_ | refine AHeap.so ?_ ?_ | exact AHeap.n1 (by assumption) | exact AHeap.n2 (by assumption) | exact AHeap.ne_of (by assumption) (by assumption) | exact AHeap.n4 (by assumption) (by assumption) | exact AHeap.n5 (by assumption) | exact AHeap.n6 (by assumption) | exact AHeap.n7 (by assumption) (by assumption) | exact AHeap.n8 (by assumption) (by assumption))); first | done | fail) rfl ?_ | refine S.addI rfl rfl (by omega) ?_ | refine S.subI rfl rfl (by omega) ?_ | refine S.addU rfl rfl ?_ | refine S.subU rfl rfl ?_ | refine S.addUc rfl (by decide) ?_ | refine S.subUc rfl (by decide) ?_ | refine S.arith rfl rfl rfl ?_ | refine R.pickT rfl rfl ?_ | refine R.pickF rfl rfl ?_ | refine R.len rfl ?_ | refine R.lenA rfl ?_ | refine R.lenStr rfl ?_ | refine S.convIU rfl (by omega) ?_ | refine S.convUI rfl (by omega) ?_ | refine R.convInt rfl ?_ | refine R.not rfl ?_ | refine R.eqPtrNil rfl rfl ?_ | refine R.extract rfl rfl ?_ | refine R.field rfl rfl ?_ | refine R.alloc rfl (fun b hb => ?_) | refine R.box rfl rfl rfl (fun b hb => ?_) | refine R.build rfl rfl ?_ | refine R.buildSl rfl rfl rfl (by decide) ?_ | refine R.toStr rfl ?_ | refine R.convStr rfl ?_ | refine R.minmax rfl ?_ | refine R.makeFunc rfl rfl ?_ | (first | refine S.lss rfl rfl (fun hlt => ?_) (fun hlt => by exfalso; omega) | refine S.lss rfl rfl (fun hlt => by exfalso; omega) (fun hlt => ?_) | refine S.lss rfl rfl (fun hlt => ?_) (fun hlt => ?_)) | (first | refine S.gtr rfl rfl (fun hlt => ?_) (fun hlt => by exfalso; omega) | refine S.gtr rfl rfl (fun hlt => by exfalso; omega) (fun hlt => ?_) | refine S.gtr rfl rfl (fun hlt => ?_) (fun hlt => ?_)) | (first | refine S.leq rfl rfl (fun hlt => ?_) (fun hlt => by exfalso; omega) | refine S.leq rfl rfl (fun hlt => by exfalso; omega) (fun hlt => ?_) | refine S.leq rfl rfl (fun hlt => ?_) (fun hlt => ?_)) | (first | refine S.geq rfl rfl (fun hlt => ?_) (fun hlt => by exfalso; omega) | refine S.geq rfl rfl (fun hlt => by exfalso; omega) (fun hlt => ?_) | refine S.geq rfl rfl (fun hlt => ?_) (fun hlt => ?_)) | (first | refine S.eqInt rfl rfl (fun hlt => ?_) (fun hlt => by exfalso; omega) | refine S.eqInt rfl rfl (fun hlt => by exfalso; omega) (fun hlt => ?_) | refine S.eqInt rfl rfl (fun hlt => ?_) (fun hlt => ?_))) | (refine S.op0 rfl ?_; first | refine S.storeS rfl rfl rfl (by rfl) rfl (by first | decide | exact Nat.le_refl _ | exact Nat.le_of_ble_eq_true rfl) ?_ | refine S.store rfl rfl (by (repeat' (first | assumption | exact AHeap.set_same _ _ _ | refine AHeap.get_fresh (by assumption) ?_ | refine AHeap.so ?_ ?_ | exact AHeap.n1 (by assumption) | exact AHeap.n2 (by assumption) | exact AHeap.ne_of (by assumption) (by assumption) | exact AHeap.n4 (by assumption) (by assumption) | exact AHeap.n5 (by assumption) | exact AHeap.n6 (by assumption) | exact AHeap.n7 (by assumption) (by assumption) | exact AHeap.n8 (by assumption) (by assumption))); first | done | fail) rfl rfl rfl (by rfl) rfl ?_) | refine S.skip rfl ?_ | refine S.skip0 rfl ?_ | refine S.seq ?_ | refine S.region ?_ | refine S.regionT ?_ | refine S.tstep ?_ | refine S.talt ?_ ?_ | exact S.tstop | refine S.tdone ?_ | refine S.condT rfl ?_ | refine S.condF rfl ?_ | refine RRun.skip ?_ | refine RRun.block ?_ | refine RRun.inBlock ?_ | refine RRun.exit rfl ?_)
        apply S.ret rr14
        case hx => repeat (first | exact ResAt.nil | apply ResAt.tmp rfl | apply ResAt.cellA rfl (by (repeat' (first | assumption | exact AHeap.set_same _ _ _ | refine AHeap.get_fresh (by assumption) ?_ | refine AHeap.so ?_ ?_ | exact AHeap.n1 (by assumption) | exact AHeap.n2 (by assumption) | exact AHeap.ne_of (by assumption) (by assumption) | exact AHeap.n4 (by assumption) (by assumption) | exact AHeap.n5 (by assumption) | exact AHeap.n6 (by assumption) | exact AHeap.n7 (by assumption) (by assumption) | exact AHeap.n8 (by assumption) (by assumption))); first | done | fail) (by rfl) | apply ResAt.cell1 rfl (by (repeat' (first | assumption | exact AHeap.set_same _ _ _ | refine AHeap.get_fresh (by assumption) ?_ | refine AHeap.so ?_ ?_ | exact AHeap.n1 (by assumption) | exact AHeap.n2 (by assumption) | exact AHeap.ne_of (by assumption) (by assumption) | exact AHeap.n4 (by assumption) (by assumption) | exact AHeap.n5 (by assumption) | exact AHeap.n6 (by assumption) | exact AHeap.n7 (by assumption) (by assumption) | exact AHeap.n8 (by assumption) (by assumption))); first | done | fail) (by rfl))
        exact hQ C' _ (.inr hbb) a1 a2
      | true =>
        repeat' (first | refine S.nilK ?_ | (refine S.op rfl ?_; first | refine R.mv rfl ?_ | refine R.fieldAddr rfl ?_ | refine R.fieldAddrR rfl ?_ | refine R.nilCheck rfl ?_ | refine R.nilCheckR rfl ?_ | refine R.loadR rfl rfl ?_ | refine R.load (by decide) rfl (by (repeat' (first | assumption | exact AHeap.set_same _ _ _ | refine AHeap.get_fresh (by assumption) ?_ | refine AHeap.so ?_ ?_ | exact AHeap.n1 (by assumption) | exact AHeap.n2 (by assumption) | exact AHeap.ne_of (by assumption) (by assumption) | exact AHeap.n4 (by assumption) (by assumption) | exact AHeap.n5 (by assumption) | exact AHeap.n6 (by assumption) | exact AHeap.n7 (by assumption) (by assumption) | exact AHeap.n8 (by assumption) (by assumption))); first | done | fail) rfl ?_ | refine S.addI rfl rfl (by omega) ?_ | refine S.subI rfl rfl (by omega) ?_ | refine S.addU rfl rfl ?_ | refine S.subU rfl rfl ?_ | refine S.addUc rfl (by decide) ?_ | refine S.subUc rfl (by decide) ?_ | refine S.arith rfl rfl rfl ?_ | refine R.pickT rfl rfl ?_ | refine R.pickF rfl rfl ?_ | refine R.len rfl ?_ | refine R.lenA rfl ?_ | refine R.lenStr rfl ?_ | refine S.convIU rfl (by omega) ?_ | refine S.convUI rfl (by omega) ?_ | refine R.convInt rfl ?_ | refine R.not rfl ?_ | refine R.eqPtrNil rfl rfl ?_ | refine R.extract rfl rfl ?_ | refine R.field rfl rfl ?_ | refine R.alloc rfl (fun b hb => ?_) | refine R.box rfl rfl rfl (fun b hb => ?_) | refine R.build rfl rfl ?_ | refine R.buildSl rfl rfl rfl (by decide) ?_ | refine R.toStr rfl ?_ | refine R.convStr rfl ?_ | refine R.minmax rfl ?_ | refine R.makeFunc rfl rfl ?_ | (first | refine S.lss rfl rfl (fun hlt => ?_) (fun hlt => by exfalso; omega) | refine S.lss rfl rfl (fun hlt => by exfalso; omega) (fun hlt => ?_) | refine S.lss rfl rfl (fun hlt => ?_) (fun hlt => ?_)) | (first | refine S.gtr rfl rfl (fun hlt => ?_) (fun hlt => by exfalso; omega) | refine S.gtr rfl rfl (fun hlt => by exfalso; omega) (fun hlt => ?_) | refine S.gtr rfl rfl (fun hlt => ?_) (fun hlt => ?_)) | (first | refine S.leq rfl rfl (fun hlt => ?_) (fun hlt => by exfalso; omega) | refine S.leq rfl rfl (fun hlt => by exfalso; omega) (fun hlt => ?_) | refine S.leq rfl rfl (fun hlt => ?_) (fun hlt => ?_)) | (first | refine S.geq rfl rfl (fun hlt => ?_) (fun hlt => by exfalso; omega) | refine S.geq rfl rfl (fun hlt => by exfalso; omega) (fun hlt => ?_) | refine S.geq rfl rfl (fun hlt => ?_) (fun hlt => ?_)) | (first | refine S.eqInt rfl rfl (fun hlt => ?_) (fun hlt => by exfalso; omega) | refine S.eqInt rfl rfl (fun hlt => by exfalso; omega) (fun hlt => ?_) | refine S.eqInt rfl rfl (fun hlt => ?_) (fun hlt => ?_))) | (refine S.op0 rfl ?_; first | refine S.storeS rfl rfl rfl (by rfl) rfl (by first | decide | exact Nat.le_refl _ | exact Nat.le_of_ble_eq_true rfl) ?_ | refine S.store rfl rfl (by (repeat' (first | assumption | exact AHeap.set_same _ _ _ | refine AHeap.get_fresh (by assumption) ?_ | refine AHeap.so ?_ ?_ | exact AHeap.n1 (by assumption) | exact AHeap.n2 (by assumption) | exact AHeap.ne_of (by assumption) (by assumption) | exact AHeap.n4 (by assumption) (by assumption) | exact AHeap.n5 (by assumption) | exact AHeap.n6 (by assumption) | exact AHeap.n7 (by assumption) (by assumption) | exact AHeap.n8 (by assumption) (by assumption))); first | done | fail) rfl rfl rfl (by rfl) rfl ?_) | refine S.skip rfl ?_ | refine S.skip0 rfl ?_ | refine S.seq ?_ | refine S.region ?_ | refine S.regionT ?_ | refine S.tstep ?_ | refine S.talt ?_ ?_ | exact S.tstop | refine S.tdone ?_ | refine S.condT rfl ?_ | refine S.condF rfl ?_ | refine RRun.skip ?_ | refine RRun.block ?_ | refine RRun.inBlock ?_ | refine RRun.exit rfl ?_)
        rw [show ((n : Int) + 1) = ((n + 1 : Nat) : Int) by omega]
        refine S.keep [0, 1, 3, 4] rfl (ih (i + blanks (s.drop i) + m) (n + 1) (j + 1) C' h' (by omega) (by omega) (by omega) (by omega) hrest hbb ?_ ?_ ?_ ?_ a1 a2)
        · intro hc; rcases hC' p hc with e | e
          · exact hCp e
          · simp [AHeap.set, Ne.symm hbp] at e
        · intro hc; rcases hC' q hc with e | e
          · exact hCq e
          · simp [AHeap.set, hqb, hqp, hg1q] at e
        · exact hft p _ (by simp [AHeap.set, Ne.symm hbp]) hCp
        · exact hft q _ (by simp [AHeap.set, hqb, hqp, hg1q]) hCq

def cutS (s : List UInt8) : List Tok × Option (Int × Nat) := cutF (s.length + 1) s 0 0

theorem tokens_spec (s : List UInt8) (hs : s.length ≤ 2000000) (l q : Nat) (h0 : AHeap) (C0 : Nat → Prop) (I : Nat → (Nat → Prop) → AHeap → Prop) (Z : (Nat → Prop) → AHeap → Prop) (hI : ∀ j, Client (I j))
    (hy : ∀ j vs, (yields (cutS s))[j]? = some vs → ∀ C h, I j C h → YStep Try.prog l vs C h (I (j + 1)) Z) (hI0 : I 0 C0 h0) (hq : h0 q = some (.box [str s])) (hCq : ¬ C0 q) :
    ACalls Try.prog 14 [yieldV l, ptr q] h0 (fun _ h' => ∃ C, (I (yields (cutS s)).length C h' ∨ Z C h') ∧ (∀ x o, h0 x = some o → ¬ C0 x → h' x = some o) ∧ (∀ x, C x → C0 x ∨ h0 x = none)) := by
  obtain ⟨c, hc1, hc2⟩ := res14
  refine ACalls.enter Try.func14 hc1 Try.ntmps14 hc2 (Nat.le_of_ble_eq_true rfl) rfl ?_
  repeat' (first | refine S.nilK ?_ | (refine S.op rfl ?_; first | refine R.mv rfl ?_ | refine R.fieldAddr rfl ?_ | refine R.fieldAddrR rfl ?_ | refine R.nilCheck rfl ?_ | refine R.nilCheckR rfl ?_ | refine R.loadR rfl rfl ?_ | refine R.load (by decide) rfl (by (repeat' (first | assumption | exact AHeap.set_same _ _ _ | refine AHeap.get_fresh (by assumption) ?_ | refine AHeap.so ?_ ?_ | exact AHeap.n1 (by assumption) | exact AHeap.n2 (by assumption) | exact AHeap.ne_of (by assumption) (by assumption) | exact AHeap.n4 (by assumption) (by assumption) | exact AHeap.n5 (by assumption) | exact AHeap.n6 (by assumption) | exact AHeap.n7 (by assumption) (by assumption) | exact AHeap.n8 (by assumption) (by assumption))); first | done | fail) rfl ?_ | refine S.addI rfl rfl (by omega) ?_ | refine S.subI rfl rfl (by omega) ?_ | refine S.addU rfl rfl ?_ | refine S.subU rfl rfl ?_ | refine S.addUc rfl (by decide) ?_ | refine S.subUc rfl (by decide) ?_ | refine S.arith rfl rfl rfl ?_ | refine R.pickT rfl rfl ?_ | refine R.pickF rfl rfl ?_ | refine R.len rfl ?_ | refine R.lenA rfl ?_ | refine R.lenStr rfl ?_ | refine S.convIU rfl (by omega) ?_ | refine S.convUI rfl (by omega) ?_ | refine R.convInt rfl ?_ | refine R.not rfl ?_ | refine R.eqPtrNil rfl rfl ?_ | refine R.extract rfl rfl ?_ | refine R.field rfl rfl ?_ | refine R.alloc rfl (fun b hb => ?_) | refine R.box rfl rfl rfl (fun b hb => ?_) | refine R.build rfl rfl ?_ | refine R.buildSl rfl rfl rfl (by decide) ?_ | refine R.toStr rfl ?_ | refine R.convStr rfl ?_ | refine R.minmax rfl ?_ | refine R.makeFunc rfl rfl ?_ | (first | refine S.lss rfl rfl (fun hlt => ?_) (fun hlt => by exfalso; omega) | refine S.lss rfl rfl (fun hlt => by exfalso; omega) (fun hlt => ?_) | refine S.lss rfl rfl (fun hlt => ?_) (fun hlt => ?_)) | (first | refine S.gtr rfl rfl (fun hlt => ?_) (fun hlt => by exfalso; omega) | refine S.gtr rfl rfl (fun hlt => by exfalso; omega) (fun hlt => ?_) | refine S.gtr rfl rfl (fun hlt => ?_) (fun hlt => ?_)) | (first | refine S.leq rfl rfl (fun hlt => ?_) (fun hlt => by exfalso; omega) | refine S.leq rfl rfl (fun hlt => by exfalso; omega) (fun hlt => ?_) | refine S.leq rfl rfl (fun hlt => ?_) (fun hlt => ?_)) | (first | refine S.geq rfl rfl (fun hlt => ?_) (fun hlt => by exfalso; omega) | refine S.geq rfl rfl (fun hlt => by exfalso; omega) (fun hlt => ?_) | refine S.geq rfl rfl (fun hlt => ?_) (fun hlt => ?_)) | (first | refine S.eqInt rfl rfl (fun hlt => ?_) (fun hlt => by exfalso; omega) | refine S.eqInt rfl rfl (fun hlt => by exfalso; omega) (fun hlt => ?_) | refine S.eqInt rfl rfl (fun hlt => ?_) (fun hlt => ?_))) | (refine S.op0 rfl ?_; first | refine S.storeS rfl rfl rfl (by rfl) rfl (by first | decide | exact Nat.le_refl _ | exact Nat.le_of_ble_eq_true rfl) ?_ | refine S.store rfl rfl (by (repeat' (first | assumption | exact AHeap.set_same _ _ _ | refine AHeap.get_fresh (by assumption) ?_ | refine AHeap.so ?_ ?_ | exact AHeap.n1 (by assumption) | exact AHeap.n2 (by assumption) | exact AHeap.ne_of (by assumption) (by assumption) | exact AHeap.n4 (by assumption) (by assumption) | exact AHeap.n5 (by assumption) | exact AHeap.n6 (by assumption) | exact AHeap.n7 (by assumption) (by assumption) | exact AHeap.n8 (by assumption) (by assumption))); first | done | fail) rfl rfl rfl (by rfl) rfl ?_) | refine S.skip rfl ?_ | refine S.skip0 rfl ?_ | refine S.seq ?_ | refine S.region ?_ | refine S.regionT ?_ | refine S.tstep ?_ | refine S.talt ?_ ?_ | exact S.tstop | refine S.tdone ?_ | refine S.condT rfl ?_ | refine S.condF rfl ?_ | refine RRun.skip ?_ | refine RRun.block ?_ | refine RRun.inBlock ?_ | refine RRun.exit rfl ?_)
  have hqb : q ≠ b := AHeap.ne_of hb hq
  have hCb : ¬ C0 b := fun hx => (hI 0).own C0 h0 hI0 b hx hb
  refine RRun.loopIn (S.keep [0, 1, 3, 4] rfl ?_)
  refine tokens_loop s hs l b q h0 C0 I Z hI (yields (cutS s)) hy hb (Ne.symm hqb) _ (fun C h h1 h2 h3 => ⟨C, h1, h2, h3⟩) (s.length + 1) 0 0 0 C0 _ (by omega) (by omega) (by decide) (by omega) rfl
    ((hI 0).loc C0 h0 _ hI0 fun x hx => AHeap.set_other _ _ (fun e => hCb (e ▸ hx))) hCb hCq (AHeap.set_same _ _ _) ((AHeap.set_other _ _ hqb).trans hq) (fun x o e _ => AHeap.get_fresh hb e) (fun x hx => .inl hx)

/-- plenum/lex.Tokens -/
def r10 : RCode :=
  (.seq (.region [
    ⟨(some 1), none, .act, .box (.tmp 0)⟩,
    ⟨(some 2), none, .act, .mv (.const .nilFunc)⟩])
  (.seq (.region [
    ⟨(some 3), none, .act, .makeFunc (.func 14) [] [(.tmp 1)]⟩,
    ⟨(some 2), none, .act, .mv (.tmp 3)⟩])
  .ret))
theorem res10 : ∃ c, Try.f10.body = some c ∧ resCode Try.prog 4 c = some r10 := ⟨_, rfl, by kernel_rfl⟩
theorem rr10 : resRes Try.prog Try.f10.results.toList = some [.tmp 2] := by kernel_rfl
theorem tokens_fn (s : List UInt8) (h : AHeap) : ACalls Try.prog 10 [str s] h (fun x h' => ∃ q, h q = none ∧ x = .v (.func (.func 14) #[] #[.pointer (some ⟨q, 0, none⟩)]) ∧ h' = h.set q (.box [str s])) := by
  obtain ⟨c, hc1, hc2⟩ := res10
  refine ACalls.enter Try.func10 hc1 Try.ntmps10 hc2 (Nat.le_of_ble_eq_true rfl) rfl ?_
  repeat' (first | refine S.nilK ?_ | (refine S.op rfl ?_; first | refine R.mv rfl ?_ | refine R.fieldAddr rfl ?_ | refine R.fieldAddrR rfl ?_ | refine R.nilCheck rfl ?_ | refine R.nilCheckR rfl ?_ | refine R.loadR rfl rfl ?_ | refine R.load (by decide) rfl (by (repeat' (first | assumption | exact AHeap.set_same _ _ _ | refine AHeap.get_fresh (by assumption) ?_ | refine AHeap.so ?_ ?_ | exact AHeap.n1 (by assumption) | exact AHeap.n2 (by assumption) | exact AHeap.ne_of (by assumption) (by assumption) | exact AHeap.n4 (by assumption) (by assumption) | exact AHeap.n5 (by assumption) | exact AHeap.n6 (by assumption) | exact AHeap.n7 (by assumption) (by assumption) | exact AHeap.n8 (by assumption) (by assumption))); first | done | fail) rfl ?_ | refine S.addI rfl rfl (by omega) ?_ | refine S.subI rfl rfl (by omega) ?_ | refine S.addU rfl rfl ?_ | refine S.subU rfl rfl ?_ | refine S.addUc rfl (by decide) ?_ | refine S.subUc rfl (by decide) ?_ | refine S.arith rfl rfl rfl ?_ | refine R.pickT rfl rfl ?_ | refine R.pickF rfl rfl ?_ | refine R.len rfl ?_ | refine R.lenA rfl ?_ | refine R.lenStr rfl ?_ | refine S.convIU rfl (by omega) ?_ | refine S.convUI rfl (by omega) ?_ | refine R.convInt rfl ?_ | refine R.not rfl ?_ | refine R.eqPtrNil rfl rfl ?_ | refine R.extract rfl rfl ?_ | refine R.field rfl rfl ?_ | refine R.alloc rfl (fun b hb => ?_) | refine R.box rfl rfl rfl (fun b hb => ?_) | refine R.build rfl rfl ?_ | refine R.buildSl rfl rfl rfl (by decide) ?_ | refine R.toStr rfl ?_ | refine R.convStr rfl ?_ | refine R.minmax rfl ?_ | refine R.makeFunc rfl rfl ?_ | (first | refine S.lss rfl rfl (fun hlt => ?_) (fun hlt => by exfalso; omega) | refine S.lss rfl rfl (fun hlt => by exfalso; omega) (fun hlt => ?_) | refine S.lss rfl rfl (fun hlt => ?_) (fun hlt => ?_)) | (first | refine S.gtr rfl rfl (fun hlt => ?_) (fun hlt => by exfalso; omega) | refine S.gtr rfl rfl (fun hlt => by exfalso; omega) (fun hlt => ?_) | refine S.gtr rfl rfl (fun hlt => ?_) (fun hlt => ?_)) | (first | refine S.leq rfl rfl (fun hlt => ?_) (fun hlt => by exfalso; omega) | refine S.leq rfl rfl (fun hlt => by exfalso; omega) (fun hlt => ?_) | refine S.leq rfl rfl (fun hlt => ?_) (fun hlt => ?_)) | (first | refine S.geq rfl rfl (fun hlt => ?_) (fun hlt => by exfalso; omega) | refine S.geq rfl rfl (fun hlt => by exfalso; omega) (fun hlt => ?_) | refine S.geq rfl rfl (fun hlt => ?_) (fun hlt => ?_)) | (first | refine S.eqInt rfl rfl (fun hlt => ?_) (fun hlt => by exfalso; omega) | refine S.eqInt rfl rfl (fun hlt => by exfalso; omega) (fun hlt => ?_) | refine S.eqInt rfl rfl (fun hlt => ?_) (fun hlt => ?_))) | (refine S.op0 rfl ?_; first | refine S.storeS rfl rfl rfl (by rfl) rfl (by first | decide | exact Nat.le_refl _ | exact Nat.le_of_ble_eq_true rfl) ?_ | refine S.store rfl rfl (by (repeat' (first | assumption | exact AHeap.set_same _ _ _ | refine AHeap.get_fresh (by assumption) ?_ | refine AHeap.so ?_ ?_ | exact AHeap.n1 (by assumption) | exact AHeap.n2 (by assumption) | exact AHeap.ne_of (by assumption) (by assumption) | exact AHeap.n4 (by assumption) (by assumption) | exact AHeap.n5 (by assumption) | exact AHeap.n6 (by assumption) | exact AHeap.n7 (by assumption) (by assumption) | exact AHeap.n8 (by assumption) (by assumption))); first | done | fail) rfl rfl rfl (by rfl) rfl ?_) | refine S.skip rfl ?_ | refine S.skip0 rfl ?_ | refine S.seq ?_ | refine S.region ?_ | refine S.regionT ?_ | refine S.tstep ?_ | refine S.talt ?_ ?_ | exact S.tstop | refine S.tdone ?_ | refine S.condT rfl ?_ | refine S.condF rfl ?_ | refine RRun.skip ?_ | refine RRun.block ?_ | refine RRun.inBlock ?_ | refine RRun.exit rfl ?_)
  apply S.ret rr10
  case hx => repeat (first | exact ResAt.nil | apply ResAt.tmp rfl | apply ResAt.cellA rfl (by (repeat' (first | assumption | exact AHeap.set_same _ _ _ | refine AHeap.get_fresh (by assumption) ?_ | refine AHeap.so ?_ ?_ | exact AHeap.n1 (by assumption) | exact AHeap.n2 (by assumption) | exact AHeap.ne_of (by assumption) (by assumption) | exact AHeap.n4 (by assumption) (by assumption) | exact AHeap.n5 (by assumption) | exact AHeap.n6 (by assumption) | exact AHeap.n7 (by assumption) (by assumption) | exact AHeap.n8 (by assumption) (by assumption))); first | done | fail) (by rfl) | apply ResAt.cell1 rfl (by (repeat' (first | assumption | exact AHeap.set_same _ _ _ | refine AHeap.get_fresh (by assumption) ?_ | refine AHeap.so ?_ ?_ | exact AHeap.n1 (by assumption) | exact AHeap.n2 (by assumption) | exact AHeap.ne_of (by assumption) (by assumption) | exact AHeap.n4 (by assumption) (by assumption) | exact AHeap.n5 (by assumption) | exact AHeap.n6 (by assumption) | exact AHeap.n7 (by assumption) (by assumption) | exact AHeap.n8 (by assumption) (by assumption))); first | done | fail) (by rfl))
  exact ⟨b, hb, rfl, rfl⟩

end Go.Proofs.Ytcjcmegkfplnkaa
