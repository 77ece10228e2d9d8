import Derived.Test.YtnmgamcmjjngcaaX2
set_option linter.unusedVariables false
set_option linter.unusedSimpArgs false
namespace Go.Proofs.Ytnmgamcmjjngcaa
open Go.Av

/-! ### The reference's Send, of one message -/

structure Stp (q : Nat) (c : Cap) (h : AHeap) (c' : Cap) (h' : AHeap) : Prop where
  agree : Agree q c h h'
  fresh : Fresh c c' h

theorem Stp.refl (q : Nat) (c : Cap) (h : AHeap) : Stp q c h c h := ⟨.refl q c h, fun b u s e => .inr ⟨u, s, e⟩⟩
theorem Stp.trans {q : Nat} {c c1 c2 : Cap} {h h1 h2 : AHeap} (s1 : Stp q c h c1 h1) (s2 : Stp q c1 h1 c2 h2) (hq : ∃ o, h1 q = some o) : Stp q c h c2 h2 := by
  refine ⟨fun x o e hx hn => s2.agree x o (s1.agree x o e hx hn) hx fun b u s hc => ?_, fun b u s hc => ?_⟩
  · intro e'
    subst e'
    rcases s1.fresh _ u s hc with g | ⟨u0, s0, g⟩
    · rw [g] at e; cases e
    · exact hn _ _ _ g rfl
  · rcases s2.fresh b u s hc with g | ⟨u0, s0, g⟩
    · cases e : h b with
      | none => exact .inl rfl
      | some o =>
        refine .inr ?_
        by_cases hbq : b = q
        · subst hbq; obtain ⟨o', ho⟩ := hq; rw [g] at ho; cases ho
        · cases c with
          | tok b0 u0 s0 =>
            by_cases hb0 : b = b0
            · subst hb0; exact ⟨u0, s0, rfl⟩
            · have := s1.agree b o e hbq (fun b1 u1 s1 hc1 => by cases hc1; exact hb0)
              rw [g] at this; cases this
          | ro => have := s1.agree b o e hbq (fun b1 u1 s1 hc1 => by cases hc1); rw [g] at this; cases this
          | full => have := s1.agree b o e hbq (fun b1 u1 s1 hc1 => by cases hc1); rw [g] at this; cases this
    · exact s1.fresh b u0 s0 g

theorem Held.box {c : Cap} {h : AHeap} (hh : Held c h) {x : Nat} {cs : List AV} (hx : h x = some (.box cs)) : notIn c x := fun b u s hc e => by
  subst e
  rcases hh with g | ⟨b', u', s', g, g2⟩
  · rw [g] at hc; cases hc
  · rw [g] at hc; cases hc; rw [hx] at g2; cases g2

theorem S.appendHeld {P : Program} {cl : Cls} {E : AEnv} {h : AHeap} {K : AV → AHeap → Prop} {sz bytes : Nat} {zero : List Value} {x y : Operand} {s : AV} {xs ys : List (List AV)} {c0 : Cap} (q : Nat) (hc : cl = .act) (hx : aev E x = some (.sl sz xs c0)) (hh : Held c0 h) (hy : aev E y = some s) (hs : Go.Av.Src sz s ys)
    (hone : ∀ e ∈ ys, ∀ a ∈ e, a.one = true) (hlen : xs.length + ys.length ≤ 4611686018427387904) (hroom : (xs.length + ys.length) * bytes ≤ 140737488355328)
    (hk : ∀ c' h', Held c' h' → Stp q c0 h c' h' → (∀ b cs, h b = some (.box cs) → h' b = some (.box cs)) → K (.sl sz (xs ++ ys) c') h') : ROpS P cl (.append sz bytes zero x y) E h K := by
  rcases hh with rfl | ⟨b, u, s0, rfl, hb⟩
  · refine R.append hc hx (.sl _ _) .full hy hs hone hlen hroom fun c' h' ho => ?_
    cases ho with
    | full => exact hk _ _ (.inl rfl) (.refl q _ h) fun _ _ e => e
    | tok hb => exact hk _ _ (.inr ⟨_, _, _, rfl, AHeap.set_same _ _ _⟩) ⟨fun x o e _ _ => AHeap.get_fresh hb e, fun b' u' s' e => by cases e; exact .inl hb⟩ fun _ _ e => AHeap.get_fresh hb e
  · have hset : (h.del b).set b (.grow u s0) = h := by
      funext x
      by_cases hx : x = b
      · subst hx; simp [hb]
      · rw [AHeap.set_other _ _ hx, AHeap.del_other _ hx]
    have hown : Own (h.del b) (.tok b u s0) h := by
      have := Own.tok (h₀ := h.del b) (b := b) (u := u) (s := s0) (AHeap.del_same h b)
      rwa [hset] at this
    have hbox : ∀ x cs, h x = some (.box cs) → (h.del b) x = some (.box cs) := fun x cs e => by
      have hx : x ≠ b := fun e' => by subst e'; rw [hb] at e; cases e
      rw [AHeap.del_other _ hx]; exact e
    have hag : ∀ x o, h x = some o → notIn (.tok b u s0) x → (h.del b) x = some o := fun x o e hn => by
      rw [AHeap.del_other _ (hn b u s0 rfl)]; exact e
    refine R.append hc hx (.sl _ _) hown hy hs hone hlen hroom fun c' h' ho => ?_
    cases ho with
    | full => exact hk _ _ (.inl rfl) ⟨fun x o e _ hn => hag x o e hn, fun b' u' s' e => by cases e⟩ hbox
    | tok hb' =>
      rename_i b' u' s'
      refine hk _ _ (.inr ⟨_, _, _, rfl, AHeap.set_same _ _ _⟩) ⟨fun x o e _ hn => AHeap.get_fresh hb' (hag x o e hn), fun b2 u2 s2 e => ?_⟩ fun x cs e => AHeap.get_fresh hb' (hbox x cs e)
      cases e
      by_cases hbb : b' = b
      · subst hbb; exact .inr ⟨u, s0, rfl⟩
      · rw [AHeap.del_other _ hbb] at hb'; exact .inl hb'

/-- The mesh's box turns. -/
theorem RAt.store {Z Z' : RMesh} {q : Nat} {c c0 : Cap} {h h0 : AHeap} (hs : Stp q c0 h0 c h) {cs : List AV} (hq : h q = some (.box cs)) (hh : Held c h) :
    RAt Z' q c (h.set q (.box [fates Z'.fates, i64 Z'.sent, i64 Z'.now, pairs Z'.cut, flys Z'.wait c])) ∧ Stp q c0 h0 c (h.set q (.box [fates Z'.fates, i64 Z'.sent, i64 Z'.now, pairs Z'.cut, flys Z'.wait c])) := by
  refine ⟨⟨AHeap.set_same _ _ _, ?_⟩, ⟨fun x o e hx hn => by rw [AHeap.set_other _ _ hx]; exact hs.agree x o e hx hn, hs.fresh⟩⟩
  rcases hh with h1 | ⟨b, u, s, h1, h2⟩
  · exact .inl h1
  · refine .inr ⟨b, u, s, h1, ?_⟩
    rw [AHeap.set_other]
    · exact h2
    · intro e; subst e; rw [h2] at hq; cases hq

def RMesh.kk (Z : RMesh) (x : Msg) : Nat := if rCut Z.cut x.src x.dst then 0 else clampT (fateAt Z.fates Z.sent).times
def RMesh.send1 (Z : RMesh) (x : Msg) : RMesh := { Z with sent := Z.sent + 1, wait := Z.wait ++ List.replicate (Z.kk x) ⟨x, (Z.now : Int) + clampD (fateAt Z.fates Z.sent).delay⟩ }

def r24l1 : RCode :=
  (.seq (.seq (.region [
    ⟨(some 49), none, .act, .mv (.tmp 8)⟩,
    ⟨(some 50), none, .act, .fieldAddr 0 (.tmp 6)⟩,
    ⟨(some 51), none, .act, .load false 1 (.tmp 50)⟩,
    ⟨(some 52), none, .act, .bin .lss (.tmp 49) (.tmp 51)⟩,
    ⟨(some 53), none, .act, .mv (.tmp 52)⟩,
    ⟨(some 54), (some (53, true)), .act, .mv (.tmp 8)⟩,
    ⟨(some 55), (some (53, true)), .act, .bin .lss (.tmp 54) (.const (.int .i64 3))⟩,
    ⟨(some 56), none, .act, .pick (.tmp 53) (.tmp 55) (.const (.bool false))⟩,
    ⟨(some 57), none, .act, .mv (.tmp 56)⟩,
    ⟨(some 58), (some (57, true)), .act, .mv (.tmp 0)⟩,
    ⟨(some 59), (some (57, true)), .act, .fieldAddr 1 (.tmp 5)⟩,
    ⟨(some 60), (some (57, true)), .act, .load false 1 (.tmp 59)⟩,
    ⟨(some 61), (some (57, true)), .act, .fieldAddr 2 (.tmp 5)⟩,
    ⟨(some 62), (some (57, true)), .act, .load false 1 (.tmp 61)⟩,
    ⟨(some 63), (some (57, true)), .act, .call 61 [(.tmp 58), (.tmp 60), (.tmp 62)]⟩,
    ⟨(some 64), (some (57, true)), .act, .un .not (.tmp 63)⟩,
    ⟨(some 65), none, .act, .pick (.tmp 57) (.tmp 64) (.const (.bool false))⟩])
  (.cond (.tmp 65)
   .skip
   (.exit 2)))
  (.seq (.block 3
   (.region [
     ⟨(some 68), none, .pure, .mv (.tmp 0)⟩,
     ⟨(some 69), none, .pure, .mv (.tmp 0)⟩,
     ⟨(some 70), none, .pure, .nilCheck (.tmp 69)⟩,
     ⟨(some 71), none, .pure, .fieldAddr 4 (.tmp 70)⟩,
     ⟨(some 72), none, .read, .load false 1 (.tmp 71)⟩,
     ⟨(some 73), none, .read, .load true 14 (.tmp 5)⟩,
     ⟨(some 74), none, .pure, .mv (.tmp 0)⟩,
     ⟨(some 75), none, .pure, .nilCheck (.tmp 74)⟩,
     ⟨(some 76), none, .pure, .fieldAddr 2 (.tmp 75)⟩,
     ⟨(some 77), none, .read, .load false 1 (.tmp 76)⟩,
     ⟨(some 78), none, .pure, .mv (.tmp 7)⟩,
     ⟨(some 79), none, .pure, .bin .add (.tmp 77) (.tmp 78)⟩,
     ⟨(some 80), none, .pure, .build [(.int .i64 0), (.int .u64 0), (.int .u64 0), (.int .u64 0), (.int .u64 0), (.int .u64 0), (.int .u64 0), (.int .u64 0), (.bool false), (.slice none 0 0), (.int .u64 0), (.int .u64 0), (.slice none 0 0), (.slice none 0 0), (.int .i64 0)] [(0, 14, (.tmp 73)), (14, 1, (.tmp 79))]⟩,
     ⟨(some 81), none, .pure, .buildSl 15 [(.int .i64 0), (.int .u64 0), (.int .u64 0), (.int .u64 0), (.int .u64 0), (.int .u64 0), (.int .u64 0), (.int .u64 0), (.bool false), (.slice none 0 0), (.int .u64 0), (.int .u64 0), (.slice none 0 0), (.slice none 0 0), (.int .i64 0)] 1 [(0, (.tmp 80))]⟩,
     ⟨(some 82), none, .act, .append 15 168 [(.int .i64 0), (.int .u64 0), (.int .u64 0), (.int .u64 0), (.int .u64 0), (.int .u64 0), (.int .u64 0), (.int .u64 0), (.bool false), (.slice none 0 0), (.int .u64 0), (.int .u64 0), (.slice none 0 0), (.slice none 0 0), (.int .i64 0)] (.tmp 72) (.tmp 81)⟩,
     ⟨(some 83), none, .pure, .nilCheck (.tmp 68)⟩,
     ⟨(some 84), none, .pure, .fieldAddr 4 (.tmp 83)⟩,
     ⟨none, none, .act, .store 1 (.tmp 84) (.tmp 82)⟩]))
  (.region [
    ⟨(some 66), none, .act, .mv (.tmp 8)⟩,
    ⟨(some 67), none, .act, .bin .add (.tmp 66) (.const (.int .i64 1))⟩,
    ⟨(some 8), none, .act, .mv (.tmp 67)⟩])))
def r24l0 : RCode :=
  (.seq (.region [
    ⟨(some 12), none, .act, .bin .lss (.tmp 11) (.tmp 10)⟩])
  (.seq (.cond (.tmp 12)
   .skip
   (.exit 0))
  (.seq (.block 1
   (.seq (.region [
     ⟨(some 13), none, .act, .indexAddr 14 (.tmp 9) (.tmp 11)⟩,
     ⟨(some 14), none, .act, .load true 14 (.tmp 13)⟩,
     ⟨(some 5), none, .act, .alloc [(.int .i64 0), (.int .u64 0), (.int .u64 0), (.int .u64 0), (.int .u64 0), (.int .u64 0), (.int .u64 0), (.int .u64 0), (.bool false), (.slice none 0 0), (.int .u64 0), (.int .u64 0), (.slice none 0 0), (.slice none 0 0)]⟩,
     ⟨none, none, .act, .store 14 (.tmp 5) (.tmp 14)⟩])
   (.seq (.region [
     ⟨(some 15), none, .act, .build [(.int .i64 0), (.int .i64 0)] [(0, 1, (.const (.int .i64 1)))]⟩,
     ⟨(some 6), none, .act, .alloc [(.int .i64 0), (.int .i64 0)]⟩,
     ⟨none, none, .act, .store 2 (.tmp 6) (.tmp 15)⟩])
   (.seq (.seq (.region [
     ⟨(some 16), none, .pure, .mv (.tmp 0)⟩,
     ⟨(some 17), none, .pure, .nilCheck (.tmp 16)⟩,
     ⟨(some 18), none, .pure, .fieldAddr 1 (.tmp 17)⟩,
     ⟨(some 19), none, .read, .load false 1 (.tmp 18)⟩,
     ⟨(some 20), none, .pure, .mv (.tmp 0)⟩,
     ⟨(some 21), none, .pure, .nilCheck (.tmp 20)⟩,
     ⟨(some 22), none, .pure, .fieldAddr 0 (.tmp 21)⟩,
     ⟨(some 23), none, .read, .load false 1 (.tmp 22)⟩,
     ⟨(some 24), none, .pure, .len (.tmp 23)⟩,
     ⟨(some 25), none, .pure, .bin .lss (.tmp 19) (.tmp 24)⟩])
   (.cond (.tmp 25)
    (.region [
      ⟨(some 26), none, .pure, .mv (.tmp 0)⟩,
      ⟨(some 27), none, .pure, .nilCheck (.tmp 26)⟩,
      ⟨(some 28), none, .pure, .fieldAddr 0 (.tmp 27)⟩,
      ⟨(some 29), none, .read, .load false 1 (.tmp 28)⟩,
      ⟨(some 30), none, .pure, .mv (.tmp 0)⟩,
      ⟨(some 31), none, .pure, .nilCheck (.tmp 30)⟩,
      ⟨(some 32), none, .pure, .fieldAddr 1 (.tmp 31)⟩,
      ⟨(some 33), none, .read, .load false 1 (.tmp 32)⟩,
      ⟨(some 34), none, .pure, .indexAddr 2 (.tmp 29) (.tmp 33)⟩,
      ⟨(some 35), none, .read, .load true 2 (.tmp 34)⟩,
      ⟨none, none, .act, .store 2 (.tmp 6) (.tmp 35)⟩])
    .skip))
   (.seq (.region [
     ⟨(some 36), none, .act, .mv (.tmp 0)⟩,
     ⟨(some 37), none, .act, .nilCheck (.tmp 36)⟩,
     ⟨(some 38), none, .act, .fieldAddr 1 (.tmp 37)⟩,
     ⟨(some 39), none, .act, .load false 1 (.tmp 38)⟩,
     ⟨(some 40), none, .act, .bin .add (.tmp 39) (.const (.int .i64 1))⟩,
     ⟨(some 41), none, .act, .nilCheck (.tmp 36)⟩,
     ⟨(some 42), none, .act, .fieldAddr 1 (.tmp 41)⟩,
     ⟨none, none, .act, .store 1 (.tmp 42) (.tmp 40)⟩])
   (.seq (.region [
     ⟨(some 43), none, .act, .fieldAddr 1 (.tmp 6)⟩,
     ⟨(some 44), none, .act, .load false 1 (.tmp 43)⟩,
     ⟨(some 7), none, .act, .mv (.tmp 44)⟩])
   (.seq (.seq (.region [
     ⟨(some 45), none, .act, .mv (.tmp 7)⟩,
     ⟨(some 46), none, .act, .bin .lss (.tmp 45) (.const (.int .i64 0))⟩])
   (.cond (.tmp 46)
    (.region [
      ⟨(some 7), none, .act, .mv (.const (.int .i64 0))⟩])
    .skip))
   (.seq (.seq (.region [
     ⟨(some 47), none, .act, .mv (.tmp 7)⟩,
     ⟨(some 48), none, .act, .bin .gtr (.tmp 47) (.const (.int .i64 100))⟩])
   (.cond (.tmp 48)
    (.region [
      ⟨(some 7), none, .act, .mv (.const (.int .i64 100))⟩])
    .skip))
   (.seq (.region [
     ⟨(some 8), none, .act, .mv (.const (.int .i64 0))⟩])
   (.block 2
    (.loop r24l1)))))))))))
  (.region [
    ⟨(some 85), none, .act, .bin .add (.tmp 11) (.const (.int .i64 1))⟩,
    ⟨(some 11), none, .act, .mv (.tmp 85)⟩]))))
/-- (*plenum/plenumref09.Mesh).Send -/
def r24 : RCode :=
  (.seq (.region [
    ⟨(some 9), none, .act, .mv (.tmp 1)⟩,
    ⟨(some 10), none, .act, .len (.tmp 9)⟩,
    ⟨(some 11), none, .act, .mv (.const (.int .i64 0))⟩])
  (.block 0
   (.loop r24l0)))
theorem res24 : ∃ c, Try.f24.body = some c ∧ resCode Try.prog 86 c = some r24 := ⟨_, rfl, by kernel_rfl⟩
theorem rr24 : resRes Try.prog Try.f24.results.toList = some [] := by kernel_rfl
theorem rsend_inner {h0 : AHeap} {c0 : Cap} (x : Msg) (f : Fate) (d : Nat) (hd : d ≤ 100) {q b5 b6 : Nat} (Z : RMesh) (hW : Z.wait.length ≤ 999990) (hC : Z.cut.length ≤ 1000000) (hN : Z.now ≤ 1000000) (cb : Bool) (hcb : rCut Z.cut x.src x.dst = cb) (kk : Nat) (hkk : kk = if cb then 0 else clampT f.times) (e9 e10 e11 : AV) (k : List RT) (Q : AV → AHeap → Prop)
    (hk : ∀ c h, RAt { Z with wait := Z.wait ++ List.replicate kk ⟨x, (Z.now : Int) + d⟩ } q c h → Stp q c0 h0 c h → RRun Try.prog Try.f24 86 k (Env.get [(9, e9), (10, e10), (11, e11), (0, ptr q)]) h Q) (m : Nat) :
    ∀ (j : Nat) (c : Cap) (h : AHeap), j + m = kk → RAt { Z with wait := Z.wait ++ List.replicate j ⟨x, (Z.now : Int) + d⟩ } q c h → Stp q c0 h0 c h → h b5 = some (.box x.cells) → h b6 = some (.box f.cells) → b5 ≠ q → b6 ≠ q →
      RRun Try.prog Try.f24 86 (.inLoop r24l1 :: .inBlock 2 :: k) (Env.get [(8, i64 j), (7, i64 d), (6, ptr b6), (5, ptr b5), (9, e9), (10, e10), (11, e11), (0, ptr q)]) h Q := by
  have hT := clampT_le f.times
  have hTe : (clampT f.times : Int) = min (max f.times 0) 3 := by unfold clampT; omega
  induction m with
  | zero =>
    intro j c h hj H hs h5 h6 n5 n6
    obtain rfl : j = kk := by omega
    have c61 := isCut_spec H hC x.src x.dst
    dsimp only at c61
    rw [hcb] at c61
    refine RRun.inLoop ?_
    cases cb with
    | true =>
      rw [if_pos rfl] at hkk
      repeat' (first
        | refine S.nilK ?_
        | (refine S.op rfl ?_; first
          | refine R.load (by decide) rfl h5 rfl ?_
          | refine R.load (by decide) rfl h6 rfl ?_
          | refine R.callQ (by decide) rfl c61 ?_
          | refine R.mv rfl ?_
          | refine R.fieldAddr rfl ?_
          | refine R.fieldAddrR rfl ?_
          | refine R.nilCheck rfl ?_
          | refine R.nilCheckR rfl ?_
          | refine R.loadR rfl rfl ?_
          | refine R.load (by decide) rfl (by (repeat' (first | assumption | exact AHeap.set_same _ _ _ | refine AHeap.get_fresh (by assumption) ?_ | refine AHeap.so ?_ ?_ | exact AHeap.n1 (by assumption) | exact AHeap.n2 (by assumption) | exact AHeap.ne_of (by assumption) (by assumption) | exact AHeap.n4 (by assumption) (by assumption) | exact AHeap.n5 (by assumption) | exact AHeap.n6 (by assumption) | exact AHeap.n7 (by assumption) (by assumption) | exact AHeap.n8 (by assumption) (by assumption))); first | done | fail) rfl ?_
          | refine S.addI rfl rfl (by omega) ?_
          | refine S.subI rfl rfl (by omega) ?_
          | refine S.addU rfl rfl ?_
          | refine S.subU rfl rfl ?_
          | refine S.addUc rfl (by decide) ?_
          | refine S.subUc rfl (by decide) ?_
          | refine S.arith rfl rfl rfl ?_
          | refine R.pickT rfl rfl ?_
          | refine R.pickF rfl rfl ?_
          | refine R.len rfl ?_
          | refine R.lenA rfl ?_
          | refine R.lenStr rfl ?_
          | refine S.convIU rfl (by omega) ?_
          | refine S.convUI rfl (by omega) ?_
          | refine R.convInt rfl ?_
          | refine R.not rfl ?_
          | refine R.eqPtrNil rfl rfl ?_
          | refine R.extract rfl rfl ?_
          | refine R.field rfl rfl ?_
          | refine R.alloc rfl (fun b hb => ?_)
          | refine R.box rfl rfl rfl (fun b hb => ?_)
          | refine R.build rfl rfl ?_
          | refine R.buildSl rfl rfl rfl (by decide) ?_
          | refine R.toStr rfl ?_
          | refine R.convStr rfl ?_
          | refine R.minmax rfl ?_
          | refine R.makeFunc rfl rfl ?_
          | (first | refine S.lss rfl rfl (fun hlt => ?_) (fun hlt => by exfalso; omega) | refine S.lss rfl rfl (fun hlt => by exfalso; omega) (fun hlt => ?_) | refine S.lss rfl rfl (fun hlt => ?_) (fun hlt => ?_))
          | (first | refine S.gtr rfl rfl (fun hlt => ?_) (fun hlt => by exfalso; omega) | refine S.gtr rfl rfl (fun hlt => by exfalso; omega) (fun hlt => ?_) | refine S.gtr rfl rfl (fun hlt => ?_) (fun hlt => ?_))
          | (first | refine S.leq rfl rfl (fun hlt => ?_) (fun hlt => by exfalso; omega) | refine S.leq rfl rfl (fun hlt => by exfalso; omega) (fun hlt => ?_) | refine S.leq rfl rfl (fun hlt => ?_) (fun hlt => ?_))
          | (first | refine S.geq rfl rfl (fun hlt => ?_) (fun hlt => by exfalso; omega) | refine S.geq rfl rfl (fun hlt => by exfalso; omega) (fun hlt => ?_) | refine S.geq rfl rfl (fun hlt => ?_) (fun hlt => ?_))
          | (first | refine S.eqInt rfl rfl (fun hlt => ?_) (fun hlt => by exfalso; omega) | refine S.eqInt rfl rfl (fun hlt => by exfalso; omega) (fun hlt => ?_) | refine S.eqInt rfl rfl (fun hlt => ?_) (fun hlt => ?_)))
        | (refine S.op0 rfl ?_; first | refine S.storeS rfl rfl rfl (by rfl) rfl (by first | decide | exact Nat.le_refl _ | exact Nat.le_of_ble_eq_true rfl) ?_ | refine S.store rfl rfl (by (repeat' (first | assumption | exact AHeap.set_same _ _ _ | refine AHeap.get_fresh (by assumption) ?_ | refine AHeap.so ?_ ?_ | exact AHeap.n1 (by assumption) | exact AHeap.n2 (by assumption) | exact AHeap.ne_of (by assumption) (by assumption) | exact AHeap.n4 (by assumption) (by assumption) | exact AHeap.n5 (by assumption) | exact AHeap.n6 (by assumption) | exact AHeap.n7 (by assumption) (by assumption) | exact AHeap.n8 (by assumption) (by assumption))); first | done | fail) rfl rfl rfl (by rfl) rfl ?_)
        | refine S.skip rfl ?_
        | refine S.skip0 rfl ?_
        | refine S.seq ?_
        | refine S.region ?_
        | refine S.regionT ?_
        | refine S.tstep ?_
        | refine S.talt ?_ ?_
        | exact S.tstop
        | refine S.tdone ?_
        | refine S.condT rfl ?_
        | refine S.condF rfl ?_
        | refine RRun.skip ?_
        | refine RRun.block ?_
        | refine RRun.inBlock ?_
        | refine RRun.exit rfl ?_)
      all_goals exact S.keep [9, 10, 11, 0] rfl (hk c h H hs)
    | false =>
      rw [if_neg (by decide)] at hkk
      repeat' (first
        | refine S.nilK ?_
        | (refine S.op rfl ?_; first
          | refine R.load (by decide) rfl h5 rfl ?_
          | refine R.load (by decide) rfl h6 rfl ?_
          | refine R.callQ (by decide) rfl c61 ?_
          | refine R.mv rfl ?_
          | refine R.fieldAddr rfl ?_
          | refine R.fieldAddrR rfl ?_
          | refine R.nilCheck rfl ?_
          | refine R.nilCheckR rfl ?_
          | refine R.loadR rfl rfl ?_
          | refine R.load (by decide) rfl (by (repeat' (first | assumption | exact AHeap.set_same _ _ _ | refine AHeap.get_fresh (by assumption) ?_ | refine AHeap.so ?_ ?_ | exact AHeap.n1 (by assumption) | exact AHeap.n2 (by assumption) | exact AHeap.ne_of (by assumption) (by assumption) | exact AHeap.n4 (by assumption) (by assumption) | exact AHeap.n5 (by assumption) | exact AHeap.n6 (by assumption) | exact AHeap.n7 (by assumption) (by assumption) | exact AHeap.n8 (by assumption) (by assumption))); first | done | fail) rfl ?_
          | refine S.addI rfl rfl (by omega) ?_
          | refine S.subI rfl rfl (by omega) ?_
          | refine S.addU rfl rfl ?_
          | refine S.subU rfl rfl ?_
          | refine S.addUc rfl (by decide) ?_
          | refine S.subUc rfl (by decide) ?_
          | refine S.arith rfl rfl rfl ?_
          | refine R.pickT rfl rfl ?_
          | refine R.pickF rfl rfl ?_
          | refine R.len rfl ?_
          | refine R.lenA rfl ?_
          | refine R.lenStr rfl ?_
          | refine S.convIU rfl (by omega) ?_
          | refine S.convUI rfl (by omega) ?_
          | refine R.convInt rfl ?_
          | refine R.not rfl ?_
          | refine R.eqPtrNil rfl rfl ?_
          | refine R.extract rfl rfl ?_
          | refine R.field rfl rfl ?_
          | refine R.alloc rfl (fun b hb => ?_)
          | refine R.box rfl rfl rfl (fun b hb => ?_)
          | refine R.build rfl rfl ?_
          | refine R.buildSl rfl rfl rfl (by decide) ?_
          | refine R.toStr rfl ?_
          | refine R.convStr rfl ?_
          | refine R.minmax rfl ?_
          | refine R.makeFunc rfl rfl ?_
          | (first | refine S.lss rfl rfl (fun hlt => ?_) (fun hlt => by exfalso; omega) | refine S.lss rfl rfl (fun hlt => by exfalso; omega) (fun hlt => ?_) | refine S.lss rfl rfl (fun hlt => ?_) (fun hlt => ?_))
          | (first | refine S.gtr rfl rfl (fun hlt => ?_) (fun hlt => by exfalso; omega) | refine S.gtr rfl rfl (fun hlt => by exfalso; omega) (fun hlt => ?_) | refine S.gtr rfl rfl (fun hlt => ?_) (fun hlt => ?_))
          | (first | refine S.leq rfl rfl (fun hlt => ?_) (fun hlt => by exfalso; omega) | refine S.leq rfl rfl (fun hlt => by exfalso; omega) (fun hlt => ?_) | refine S.leq rfl rfl (fun hlt => ?_) (fun hlt => ?_))
          | (first | refine S.geq rfl rfl (fun hlt => ?_) (fun hlt => by exfalso; omega) | refine S.geq rfl rfl (fun hlt => by exfalso; omega) (fun hlt => ?_) | refine S.geq rfl rfl (fun hlt => ?_) (fun hlt => ?_))
          | (first | refine S.eqInt rfl rfl (fun hlt => ?_) (fun hlt => by exfalso; omega) | refine S.eqInt rfl rfl (fun hlt => by exfalso; omega) (fun hlt => ?_) | refine S.eqInt rfl rfl (fun hlt => ?_) (fun hlt => ?_)))
        | (refine S.op0 rfl ?_; first | refine S.storeS rfl rfl rfl (by rfl) rfl (by first | decide | exact Nat.le_refl _ | exact Nat.le_of_ble_eq_true rfl) ?_ | refine S.store rfl rfl (by (repeat' (first | assumption | exact AHeap.set_same _ _ _ | refine AHeap.get_fresh (by assumption) ?_ | refine AHeap.so ?_ ?_ | exact AHeap.n1 (by assumption) | exact AHeap.n2 (by assumption) | exact AHeap.ne_of (by assumption) (by assumption) | exact AHeap.n4 (by assumption) (by assumption) | exact AHeap.n5 (by assumption) | exact AHeap.n6 (by assumption) | exact AHeap.n7 (by assumption) (by assumption) | exact AHeap.n8 (by assumption) (by assumption))); first | done | fail) rfl rfl rfl (by rfl) rfl ?_)
        | refine S.skip rfl ?_
        | refine S.skip0 rfl ?_
        | refine S.seq ?_
        | refine S.region ?_
        | refine S.regionT ?_
        | refine S.tstep ?_
        | refine S.talt ?_ ?_
        | exact S.tstop
        | refine S.tdone ?_
        | refine S.condT rfl ?_
        | refine S.condF rfl ?_
        | refine RRun.skip ?_
        | refine RRun.block ?_
        | refine RRun.inBlock ?_
        | refine RRun.exit rfl ?_)
      all_goals exact S.keep [9, 10, 11, 0] rfl (hk c h H hs)
  | succ m ih =>
    intro j c h hj H hs h5 h6 n5 n6
    have c61 := isCut_spec H hC x.src x.dst
    dsimp only at c61
    rw [hcb] at c61
    cases cb with
    | true => rw [if_pos rfl] at hkk; omega
    | false =>
      rw [if_neg (by decide)] at hkk
      have hq := H.hq
      dsimp only at hq
      have hlen : ((Z.wait ++ List.replicate j (⟨x, (Z.now : Int) + d⟩ : Fly)).map Fly.cells).length = Z.wait.length + j := by simp
      refine RRun.inLoop ?_
      repeat' (first
        | refine S.nilK ?_
        | (refine S.op rfl ?_; first
          | refine R.load (by decide) rfl h5 rfl ?_
          | refine R.load (by decide) rfl h6 rfl ?_
          | refine R.callQ (by decide) rfl c61 ?_
          | refine R.mv rfl ?_
          | refine R.fieldAddr rfl ?_
          | refine R.fieldAddrR rfl ?_
          | refine R.nilCheck rfl ?_
          | refine R.nilCheckR rfl ?_
          | refine R.loadR rfl rfl ?_
          | refine R.load (by decide) rfl (by (repeat' (first | assumption | exact AHeap.set_same _ _ _ | refine AHeap.get_fresh (by assumption) ?_ | refine AHeap.so ?_ ?_ | exact AHeap.n1 (by assumption) | exact AHeap.n2 (by assumption) | exact AHeap.ne_of (by assumption) (by assumption) | exact AHeap.n4 (by assumption) (by assumption) | exact AHeap.n5 (by assumption) | exact AHeap.n6 (by assumption) | exact AHeap.n7 (by assumption) (by assumption) | exact AHeap.n8 (by assumption) (by assumption))); first | done | fail) rfl ?_
          | refine S.addI rfl rfl (by omega) ?_
          | refine S.subI rfl rfl (by omega) ?_
          | refine S.addU rfl rfl ?_
          | refine S.subU rfl rfl ?_
          | refine S.addUc rfl (by decide) ?_
          | refine S.subUc rfl (by decide) ?_
          | refine S.arith rfl rfl rfl ?_
          | refine R.pickT rfl rfl ?_
          | refine R.pickF rfl rfl ?_
          | refine R.len rfl ?_
          | refine R.lenA rfl ?_
          | refine R.lenStr rfl ?_
          | refine S.convIU rfl (by omega) ?_
          | refine S.convUI rfl (by omega) ?_
          | refine R.convInt rfl ?_
          | refine R.not rfl ?_
          | refine R.eqPtrNil rfl rfl ?_
          | refine R.extract rfl rfl ?_
          | refine R.field rfl rfl ?_
          | refine R.alloc rfl (fun b hb => ?_)
          | refine R.box rfl rfl rfl (fun b hb => ?_)
          | refine R.build rfl rfl ?_
          | refine R.buildSl rfl rfl rfl (by decide) ?_
          | refine R.toStr rfl ?_
          | refine R.convStr rfl ?_
          | refine R.minmax rfl ?_
          | refine R.makeFunc rfl rfl ?_
          | (first | refine S.lss rfl rfl (fun hlt => ?_) (fun hlt => by exfalso; omega) | refine S.lss rfl rfl (fun hlt => by exfalso; omega) (fun hlt => ?_) | refine S.lss rfl rfl (fun hlt => ?_) (fun hlt => ?_))
          | (first | refine S.gtr rfl rfl (fun hlt => ?_) (fun hlt => by exfalso; omega) | refine S.gtr rfl rfl (fun hlt => by exfalso; omega) (fun hlt => ?_) | refine S.gtr rfl rfl (fun hlt => ?_) (fun hlt => ?_))
          | (first | refine S.leq rfl rfl (fun hlt => ?_) (fun hlt => by exfalso; omega) | refine S.leq rfl rfl (fun hlt => by exfalso; omega) (fun hlt => ?_) | refine S.leq rfl rfl (fun hlt => ?_) (fun hlt => ?_))
          | (first | refine S.geq rfl rfl (fun hlt => ?_) (fun hlt => by exfalso; omega) | refine S.geq rfl rfl (fun hlt => by exfalso; omega) (fun hlt => ?_) | refine S.geq rfl rfl (fun hlt => ?_) (fun hlt => ?_))
          | (first | refine S.eqInt rfl rfl (fun hlt => ?_) (fun hlt => by exfalso; omega) | refine S.eqInt rfl rfl (fun hlt => by exfalso; omega) (fun hlt => ?_) | refine S.eqInt rfl rfl (fun hlt => ?_) (fun hlt => ?_)))
        | (refine S.op0 rfl ?_; first | refine S.storeS rfl rfl rfl (by rfl) rfl (by first | decide | exact Nat.le_refl _ | exact Nat.le_of_ble_eq_true rfl) ?_ | refine S.store rfl rfl (by (repeat' (first | assumption | exact AHeap.set_same _ _ _ | refine AHeap.get_fresh (by assumption) ?_ | refine AHeap.so ?_ ?_ | exact AHeap.n1 (by assumption) | exact AHeap.n2 (by assumption) | exact AHeap.ne_of (by assumption) (by assumption) | exact AHeap.n4 (by assumption) (by assumption) | exact AHeap.n5 (by assumption) | exact AHeap.n6 (by assumption) | exact AHeap.n7 (by assumption) (by assumption) | exact AHeap.n8 (by assumption) (by assumption))); first | done | fail) rfl rfl rfl (by rfl) rfl ?_)
        | refine S.skip rfl ?_
        | refine S.skip0 rfl ?_
        | refine S.seq ?_
        | refine S.region ?_
        | refine S.regionT ?_
        | refine S.tstep ?_
        | refine S.talt ?_ ?_
        | exact S.tstop
        | refine S.tdone ?_
        | refine S.condT rfl ?_
        | refine S.condF rfl ?_
        | refine RRun.skip ?_
        | refine RRun.block ?_
        | refine RRun.inBlock ?_
        | refine RRun.exit rfl ?_)
      refine S.op rfl (S.appendHeld (ys := [(⟨x, (Z.now : Int) + d⟩ : Fly).cells]) q rfl rfl H.held rfl (.sl [(⟨x, (Z.now : Int) + d⟩ : Fly).cells] _) (one_fly _) (by rw [hlen]; simp only [List.length_singleton]; omega) (by rw [hlen]; simp only [List.length_singleton]; omega) fun c' h' g1 g2 g3 => ?_)
      have hq' := g3 q _ hq
      have h5' := g3 b5 _ h5
      have h6' := g3 b6 _ h6
      have hrep : Z.wait ++ List.replicate (j + 1) (⟨x, (Z.now : Int) + d⟩ : Fly) = (Z.wait ++ List.replicate j ⟨x, (Z.now : Int) + d⟩) ++ [⟨x, (Z.now : Int) + d⟩] := by rw [List.replicate_succ', List.append_assoc]
      obtain ⟨r1, r2⟩ := RAt.store (Z := Z) (Z' := { Z with wait := Z.wait ++ List.replicate (j + 1) ⟨x, (Z.now : Int) + d⟩ }) (hs.trans g2 ⟨_, hq⟩) hq' g1
      have := ih (j + 1) c' _ (by omega) r1 r2 (by rw [AHeap.set_other _ _ n5]; exact h5') (by rw [AHeap.set_other _ _ n6]; exact h6') n5 n6
      rw [hrep] at this
      have hm : ((Z.wait ++ List.replicate j (⟨x, (Z.now : Int) + d⟩ : Fly)) ++ [(⟨x, (Z.now : Int) + d⟩ : Fly)]).map Fly.cells = (Z.wait ++ List.replicate j (⟨x, (Z.now : Int) + d⟩ : Fly)).map Fly.cells ++ [(⟨x, (Z.now : Int) + d⟩ : Fly).cells] := by rw [List.map_append]; rfl
      simp only [flys] at this
      rw [hm] at this
      clear hm hrep r1 r2 ih
      repeat' (first
        | refine S.nilK ?_
        | (refine S.op rfl ?_; first
          | refine R.mv rfl ?_
          | refine R.fieldAddr rfl ?_
          | refine R.fieldAddrR rfl ?_
          | refine R.nilCheck rfl ?_
          | refine R.nilCheckR rfl ?_
          | refine R.loadR rfl rfl ?_
          | refine R.load (by decide) rfl (by (repeat' (first | assumption | exact AHeap.set_same _ _ _ | refine AHeap.get_fresh (by assumption) ?_ | refine AHeap.so ?_ ?_ | exact AHeap.n1 (by assumption) | exact AHeap.n2 (by assumption) | exact AHeap.ne_of (by assumption) (by assumption) | exact AHeap.n4 (by assumption) (by assumption) | exact AHeap.n5 (by assumption) | exact AHeap.n6 (by assumption) | exact AHeap.n7 (by assumption) (by assumption) | exact AHeap.n8 (by assumption) (by assumption))); first | done | fail) rfl ?_
          | refine S.addI rfl rfl (by omega) ?_
          | refine S.subI rfl rfl (by omega) ?_
          | refine S.addU rfl rfl ?_
          | refine S.subU rfl rfl ?_
          | refine S.addUc rfl (by decide) ?_
          | refine S.subUc rfl (by decide) ?_
          | refine S.arith rfl rfl rfl ?_
          | refine R.pickT rfl rfl ?_
          | refine R.pickF rfl rfl ?_
          | refine R.len rfl ?_
          | refine R.lenA rfl ?_
          | refine R.lenStr rfl ?_
          | refine S.convIU rfl (by omega) ?_
          | refine S.convUI rfl (by omega) ?_
          | refine R.convInt rfl ?_
          | refine R.not rfl ?_
          | refine R.eqPtrNil rfl rfl ?_
          | refine R.extract rfl rfl ?_
          | refine R.field rfl rfl ?_
          | refine R.alloc rfl (fun b hb => ?_)
          | refine R.box rfl rfl rfl (fun b hb => ?_)
          | refine R.build rfl rfl ?_
          | refine R.buildSl rfl rfl rfl (by decide) ?_
          | refine R.toStr rfl ?_
          | refine R.convStr rfl ?_
          | refine R.minmax rfl ?_
          | refine R.makeFunc rfl rfl ?_
          | (first | refine S.lss rfl rfl (fun hlt => ?_) (fun hlt => by exfalso; omega) | refine S.lss rfl rfl (fun hlt => by exfalso; omega) (fun hlt => ?_) | refine S.lss rfl rfl (fun hlt => ?_) (fun hlt => ?_))
          | (first | refine S.gtr rfl rfl (fun hlt => ?_) (fun hlt => by exfalso; omega) | refine S.gtr rfl rfl (fun hlt => by exfalso; omega) (fun hlt => ?_) | refine S.gtr rfl rfl (fun hlt => ?_) (fun hlt => ?_))
          | (first | refine S.leq rfl rfl (fun hlt => ?_) (fun hlt => by exfalso; omega) | refine S.leq rfl rfl (fun hlt => by exfalso; omega) (fun hlt => ?_) | refine S.leq rfl rfl (fun hlt => ?_) (fun hlt => ?_))
          | (first | refine S.geq rfl rfl (fun hlt => ?_) (fun hlt => by exfalso; omega) | refine S.geq rfl rfl (fun hlt => by exfalso; omega) (fun hlt => ?_) | refine S.geq rfl rfl (fun hlt => ?_) (fun hlt => ?_))
          | (first | refine S.eqInt rfl rfl (fun hlt => ?_) (fun hlt => by exfalso; omega) | refine S.eqInt rfl rfl (fun hlt => by exfalso; omega) (fun hlt => ?_) | refine S.eqInt rfl rfl (fun hlt => ?_) (fun hlt => ?_)))
        | (refine S.op0 rfl ?_; first | refine S.storeS rfl rfl rfl (by rfl) rfl (by first | decide | exact Nat.le_refl _ | exact Nat.le_of_ble_eq_true rfl) ?_ | refine S.store rfl rfl (by (repeat' (first | assumption | exact AHeap.set_same _ _ _ | refine AHeap.get_fresh (by assumption) ?_ | refine AHeap.so ?_ ?_ | exact AHeap.n1 (by assumption) | exact AHeap.n2 (by assumption) | exact AHeap.ne_of (by assumption) (by assumption) | exact AHeap.n4 (by assumption) (by assumption) | exact AHeap.n5 (by assumption) | exact AHeap.n6 (by assumption) | exact AHeap.n7 (by assumption) (by assumption) | exact AHeap.n8 (by assumption) (by assumption))); first | done | fail) rfl rfl rfl (by rfl) rfl ?_)
        | refine S.skip rfl ?_
        | refine S.skip0 rfl ?_
        | refine S.seq ?_
        | refine S.region ?_
        | refine S.regionT ?_
        | refine S.tstep ?_
        | refine S.talt ?_ ?_
        | exact S.tstop
        | refine S.tdone ?_
        | refine S.condT rfl ?_
        | refine S.condF rfl ?_
        | refine RRun.skip ?_
        | refine RRun.block ?_
        | refine RRun.inBlock ?_
        | refine RRun.exit rfl ?_)
      rw [show ((j : Int) + 1) = ((j + 1 : Nat) : Int) by omega]
      exact S.keep [8, 7, 6, 5, 9, 10, 11, 0] rfl this

end Go.Proofs.Ytnmgamcmjjngcaa
