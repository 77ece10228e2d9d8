/-
  AdyaDeps answers true for every history
-/
import Derived.Test.YthfolomknkobkaaP41
set_option linter.unusedVariables false
set_option linter.unusedSimpArgs false
namespace Go.Proofs.Ythfolomknkobkaa
open Go.Av
open Go.Ad (Seen Span Run Dep)
theorem tok_box {h : AHeap} {c : Cap} (ho : OwnT h c) {x : Nat} {cs : List AV} (hx : h x = some (.box cs)) : ¬ TokC c x := fun ⟨u, s, e⟩ => by
  rcases ho with e2 | ⟨b', u', s', e2, e3⟩
  · rw [e2] at e; cases e
  · rw [e2] at e; cases e; rw [hx] at e3; cases e3
theorem ownT_stay {h h2 : AHeap} {c c1 : Cap} (ho : OwnT h c) (q2 : ∀ x o, h x = some o → ¬ TokC c1 x → h2 x = some o) (hd : ∀ x, TokC c x → ¬ TokC c1 x) : OwnT h2 c := by
  rcases ho with rfl | ⟨b, u, s, rfl, hb⟩
  · exact .inl rfl
  · exact .inr ⟨b, u, s, rfl, q2 b _ hb (hd b ⟨u, s, rfl⟩)⟩
theorem ownT_put {h : AHeap} {c : Cap} (ho : OwnT h c) {x : Nat} {o : ABlk} (hx : ¬ TokC c x) : OwnT (h.set x o) c :=
  ownT_loc ho fun y hy => AHeap.set_other _ _ (fun e => by subst e; exact hx hy)
section
variable {rb : Nat} {h₀ h h2 : AHeap} {r : Run} {c1 c2 c' : Cap}
theorem RB.app1 (R0 : RB rb h₀ h r) (g1 : h rb = some (.box (rcell r c1 c2))) (g2 : OwnT h c1) (g3 : OwnT h c2) (g4 : ∀ x, TokC c1 x → h₀ x = none) (g5 : ∀ x, TokC c2 x → h₀ x = none) (g6 : ∀ x, TokC c1 x → ¬ TokC c2 x)
    (q1 : OwnT h2 c') (q2 : ∀ x o, h x = some o → ¬ TokC c1 x → h2 x = some o) (q3 : ∀ x, TokC c' x → TokC c1 x ∨ h x = none) (L : List Seen) :
    RB rb h₀ (h2.set rb (.box (rcell { r with seen := r.seen ++ L } c' c2))) { r with seen := r.seen ++ L } := by
  have n1 := tok_box g2 g1
  have n2 := tok_box g3 g1
  have n3 : ¬ TokC c' rb := fun e => by
    rcases q3 rb e with e | e
    · exact n1 e
    · rw [g1] at e; cases e
  have g3' : OwnT h2 c2 := ownT_stay g3 q2 fun x hx hy => g6 x hy hx
  refine ⟨⟨c', c2, AHeap.set_same _ _ _, ownT_put q1 n3, ownT_put g3' n2, fun x hx => ?_, g5, fun x hx hy => ?_⟩, fun x o hx => ?_, R0.b0⟩
  · rcases q3 x hx with e | e
    · exact g4 x e
    · exact R0.nn e
  · rcases q3 x hx with e | e
    · exact g6 x e hy
    · exact ownT_own g3 x hy e
  · rw [AHeap.set_other _ _ (fun e => by subst e; rw [R0.b0] at hx; cases hx)]
    exact q2 x o (R0.fr x o hx) (fun e => by rw [g4 x e] at hx; cases hx)
theorem RB.app2 (R0 : RB rb h₀ h r) (g1 : h rb = some (.box (rcell r c1 c2))) (g2 : OwnT h c1) (g3 : OwnT h c2) (g4 : ∀ x, TokC c1 x → h₀ x = none) (g5 : ∀ x, TokC c2 x → h₀ x = none) (g6 : ∀ x, TokC c1 x → ¬ TokC c2 x)
    (q1 : OwnT h2 c') (q2 : ∀ x o, h x = some o → ¬ TokC c2 x → h2 x = some o) (q3 : ∀ x, TokC c' x → TokC c2 x ∨ h x = none) (L : List Span) :
    RB rb h₀ (h2.set rb (.box (rcell { r with spans := r.spans ++ L } c1 c'))) { r with spans := r.spans ++ L } := by
  have n1 := tok_box g2 g1
  have n2 := tok_box g3 g1
  have n3 : ¬ TokC c' rb := fun e => by
    rcases q3 rb e with e | e
    · exact n2 e
    · rw [g1] at e; cases e
  have g3' : OwnT h2 c1 := ownT_stay g2 q2 fun x hx hy => g6 x hx hy
  refine ⟨⟨c1, c', AHeap.set_same _ _ _, ownT_put g3' n1, ownT_put q1 n3, g4, fun x hx => ?_, fun x hx hy => ?_⟩, fun x o hx => ?_, R0.b0⟩
  · rcases q3 x hx with e | e
    · exact g5 x e
    · exact R0.nn e
  · rcases q3 x hy with e | e
    · exact g6 x hx e
    · exact ownT_own g2 x hx e
  · rw [AHeap.set_other _ _ (fun e => by subst e; rw [R0.b0] at hx; cases hx)]
    exact q2 x o (R0.fr x o hx) (fun e => by rw [g5 x e] at hx; cases hx)
theorem RB.put (R0 : RB rb h₀ h r) (g1 : h rb = some (.box (rcell r c1 c2))) (g2 : OwnT h c1) (g3 : OwnT h c2) (g4 : ∀ x, TokC c1 x → h₀ x = none) (g5 : ∀ x, TokC c2 x → h₀ x = none) (g6 : ∀ x, TokC c1 x → ¬ TokC c2 x) {r2 : Run} (e1 : r2.seen = r.seen) (e2 : r2.spans = r.spans) :
    RB rb h₀ (h.set rb (.box (rcell r2 c1 c2))) r2 := by
  have n1 := tok_box g2 g1
  have n2 := tok_box g3 g1
  refine ⟨⟨c1, c2, AHeap.set_same _ _ _, ownT_put g2 n1, ownT_put g3 n2, g4, g5, g6⟩, fun x o hx => ?_, R0.b0⟩
  rw [AHeap.set_other _ _ (fun e => by subst e; rw [R0.b0] at hx; cases hx)]
  exact R0.fr x o hx
end
structure Rok (txn : UInt64) (j : Nat) (r : Run) : Prop where
  txn : r.txn = txn
  keys : r.keys.length ≤ 8
  key : ∀ k ∈ r.keys, k.length ≤ maxLen
  seen : r.seen.length ≤ 8 * j
  spans : r.spans.length ≤ j
theorem Rok.up {t : UInt64} {j : Nat} {r : Run} (R0 : Rok t j r) : Rok t (j + 1) r := ⟨R0.txn, R0.keys, R0.key, by have := R0.seen; omega, by have := R0.spans; omega⟩
def r6u : RCode :=
  (.seq (.seq (.region [
     ⟨(some 79), none, .act, .fieldAddr 2 (.tmp 9)⟩,
     ⟨(some 80), none, .act, .load false 1 (.tmp 79)⟩,
     ⟨(some 81), none, .act, .eq false .int (.tmp 80) (.const (.int .i64 0))⟩,
     ⟨(some 82), none, .act, .mv (.tmp 81)⟩,
     ⟨(some 83), (some (82, true)), .act, .fieldAddr 0 (.tmp 11)⟩,
     ⟨(some 84), (some (82, true)), .act, .load false 1 (.tmp 83)⟩,
     ⟨(some 85), (some (82, true)), .act, .eq false .int (.tmp 84) (.const (.int .i64 3))⟩,
     ⟨(some 86), none, .act, .pick (.tmp 82) (.tmp 85) (.const (.bool false))⟩])
   (.cond (.tmp 86)
    (.regionT (.step ⟨(some 87), none, .pure, .fieldAddr 3 (.tmp 11)⟩ (.step ⟨(some 89), none, .pure, .fieldAddr 7 (.tmp 11)⟩ (.step ⟨(some 91), none, .pure, .fieldAddr 2 (.tmp 9)⟩ (.alt ⟨(some 88), none, .read, .load false 1 (.tmp 87)⟩ (.alt ⟨(some 90), none, .read, .load false 1 (.tmp 89)⟩ (.alt ⟨none, none, .act, .store 1 (.tmp 91) (.const (.int .i64 1))⟩ (.step ⟨(some 92), none, .pure, .fieldAddr 4 (.tmp 9)⟩ (.alt ⟨none, none, .act, .store 1 (.tmp 92) (.tmp 88)⟩ (.step ⟨(some 93), none, .pure, .fieldAddr 5 (.tmp 9)⟩ (.alt ⟨none, none, .act, .store 1 (.tmp 93) (.tmp 90)⟩ .done
    .stop))
    .stop))
    .stop)
    (.alt ⟨none, none, .act, .store 1 (.tmp 91) (.const (.int .i64 1))⟩ (.step ⟨(some 92), none, .pure, .fieldAddr 4 (.tmp 9)⟩ (.alt ⟨(some 90), none, .read, .load false 1 (.tmp 89)⟩ (.alt ⟨none, none, .act, .store 1 (.tmp 92) (.tmp 88)⟩ (.step ⟨(some 93), none, .pure, .fieldAddr 5 (.tmp 9)⟩ (.alt ⟨none, none, .act, .store 1 (.tmp 93) (.tmp 90)⟩ .done
    .stop))
    .stop)
    (.alt ⟨none, none, .act, .store 1 (.tmp 92) (.tmp 88)⟩ (.step ⟨(some 90), none, .read, .load false 1 (.tmp 89)⟩ (.step ⟨(some 93), none, .pure, .fieldAddr 5 (.tmp 9)⟩ (.alt ⟨none, none, .act, .store 1 (.tmp 93) (.tmp 90)⟩ .done
    .stop)))
    .stop)))
    .stop))
    (.alt ⟨(some 90), none, .read, .load false 1 (.tmp 89)⟩ (.alt ⟨(some 88), none, .read, .load false 1 (.tmp 87)⟩ (.alt ⟨none, none, .act, .store 1 (.tmp 91) (.const (.int .i64 1))⟩ (.step ⟨(some 92), none, .pure, .fieldAddr 4 (.tmp 9)⟩ (.alt ⟨none, none, .act, .store 1 (.tmp 92) (.tmp 88)⟩ (.step ⟨(some 93), none, .pure, .fieldAddr 5 (.tmp 9)⟩ (.alt ⟨none, none, .act, .store 1 (.tmp 93) (.tmp 90)⟩ .done
    .stop))
    .stop))
    .stop)
    (.alt ⟨none, none, .act, .store 1 (.tmp 91) (.const (.int .i64 1))⟩ (.step ⟨(some 88), none, .read, .load false 1 (.tmp 87)⟩ (.step ⟨(some 92), none, .pure, .fieldAddr 4 (.tmp 9)⟩ (.alt ⟨none, none, .act, .store 1 (.tmp 92) (.tmp 88)⟩ (.step ⟨(some 93), none, .pure, .fieldAddr 5 (.tmp 9)⟩ (.alt ⟨none, none, .act, .store 1 (.tmp 93) (.tmp 90)⟩ .done
    .stop))
    .stop)))
    .stop))
    (.alt ⟨none, none, .act, .store 1 (.tmp 91) (.const (.int .i64 1))⟩ (.step ⟨(some 88), none, .read, .load false 1 (.tmp 87)⟩ (.step ⟨(some 92), none, .pure, .fieldAddr 4 (.tmp 9)⟩ (.alt ⟨(some 90), none, .read, .load false 1 (.tmp 89)⟩ (.alt ⟨none, none, .act, .store 1 (.tmp 92) (.tmp 88)⟩ (.step ⟨(some 93), none, .pure, .fieldAddr 5 (.tmp 9)⟩ (.alt ⟨none, none, .act, .store 1 (.tmp 93) (.tmp 90)⟩ .done
    .stop))
    .stop)
    (.alt ⟨none, none, .act, .store 1 (.tmp 92) (.tmp 88)⟩ (.step ⟨(some 90), none, .read, .load false 1 (.tmp 89)⟩ (.step ⟨(some 93), none, .pure, .fieldAddr 5 (.tmp 9)⟩ (.alt ⟨none, none, .act, .store 1 (.tmp 93) (.tmp 90)⟩ .done
    .stop)))
    .stop))))
    .stop)))))))
    .skip))
   (.seq (.region [
     ⟨(some 94), none, .act, .fieldAddr 2 (.tmp 9)⟩,
     ⟨(some 95), none, .act, .load false 1 (.tmp 94)⟩,
     ⟨(some 96), none, .act, .eq false .int (.tmp 95) (.const (.int .i64 0))⟩,
     ⟨(some 97), none, .act, .mv (.tmp 96)⟩,
     ⟨(some 98), (some (97, true)), .act, .fieldAddr 0 (.tmp 11)⟩,
     ⟨(some 99), (some (97, true)), .act, .load false 1 (.tmp 98)⟩,
     ⟨(some 100), (some (97, true)), .act, .eq false .int (.tmp 99) (.const (.int .i64 4))⟩,
     ⟨(some 101), none, .act, .pick (.tmp 97) (.tmp 100) (.const (.bool false))⟩])
   (.cond (.tmp 101)
    (.regionT (.step ⟨(some 102), none, .pure, .fieldAddr 3 (.tmp 11)⟩ (.step ⟨(some 104), none, .pure, .fieldAddr 7 (.tmp 11)⟩ (.step ⟨(some 106), none, .pure, .fieldAddr 2 (.tmp 9)⟩ (.alt ⟨(some 103), none, .read, .load false 1 (.tmp 102)⟩ (.alt ⟨(some 105), none, .read, .load false 1 (.tmp 104)⟩ (.alt ⟨none, none, .act, .store 1 (.tmp 106) (.const (.int .i64 2))⟩ (.step ⟨(some 107), none, .pure, .fieldAddr 4 (.tmp 9)⟩ (.alt ⟨none, none, .act, .store 1 (.tmp 107) (.tmp 103)⟩ (.step ⟨(some 108), none, .pure, .fieldAddr 5 (.tmp 9)⟩ (.alt ⟨none, none, .act, .store 1 (.tmp 108) (.tmp 105)⟩ .done
    .stop))
    .stop))
    .stop)
    (.alt ⟨none, none, .act, .store 1 (.tmp 106) (.const (.int .i64 2))⟩ (.step ⟨(some 107), none, .pure, .fieldAddr 4 (.tmp 9)⟩ (.alt ⟨(some 105), none, .read, .load false 1 (.tmp 104)⟩ (.alt ⟨none, none, .act, .store 1 (.tmp 107) (.tmp 103)⟩ (.step ⟨(some 108), none, .pure, .fieldAddr 5 (.tmp 9)⟩ (.alt ⟨none, none, .act, .store 1 (.tmp 108) (.tmp 105)⟩ .done
    .stop))
    .stop)
    (.alt ⟨none, none, .act, .store 1 (.tmp 107) (.tmp 103)⟩ (.step ⟨(some 105), none, .read, .load false 1 (.tmp 104)⟩ (.step ⟨(some 108), none, .pure, .fieldAddr 5 (.tmp 9)⟩ (.alt ⟨none, none, .act, .store 1 (.tmp 108) (.tmp 105)⟩ .done
    .stop)))
    .stop)))
    .stop))
    (.alt ⟨(some 105), none, .read, .load false 1 (.tmp 104)⟩ (.alt ⟨(some 103), none, .read, .load false 1 (.tmp 102)⟩ (.alt ⟨none, none, .act, .store 1 (.tmp 106) (.const (.int .i64 2))⟩ (.step ⟨(some 107), none, .pure, .fieldAddr 4 (.tmp 9)⟩ (.alt ⟨none, none, .act, .store 1 (.tmp 107) (.tmp 103)⟩ (.step ⟨(some 108), none, .pure, .fieldAddr 5 (.tmp 9)⟩ (.alt ⟨none, none, .act, .store 1 (.tmp 108) (.tmp 105)⟩ .done
    .stop))
    .stop))
    .stop)
    (.alt ⟨none, none, .act, .store 1 (.tmp 106) (.const (.int .i64 2))⟩ (.step ⟨(some 103), none, .read, .load false 1 (.tmp 102)⟩ (.step ⟨(some 107), none, .pure, .fieldAddr 4 (.tmp 9)⟩ (.alt ⟨none, none, .act, .store 1 (.tmp 107) (.tmp 103)⟩ (.step ⟨(some 108), none, .pure, .fieldAddr 5 (.tmp 9)⟩ (.alt ⟨none, none, .act, .store 1 (.tmp 108) (.tmp 105)⟩ .done
    .stop))
    .stop)))
    .stop))
    (.alt ⟨none, none, .act, .store 1 (.tmp 106) (.const (.int .i64 2))⟩ (.step ⟨(some 103), none, .read, .load false 1 (.tmp 102)⟩ (.step ⟨(some 107), none, .pure, .fieldAddr 4 (.tmp 9)⟩ (.alt ⟨(some 105), none, .read, .load false 1 (.tmp 104)⟩ (.alt ⟨none, none, .act, .store 1 (.tmp 107) (.tmp 103)⟩ (.step ⟨(some 108), none, .pure, .fieldAddr 5 (.tmp 9)⟩ (.alt ⟨none, none, .act, .store 1 (.tmp 108) (.tmp 105)⟩ .done
    .stop))
    .stop)
    (.alt ⟨none, none, .act, .store 1 (.tmp 107) (.tmp 103)⟩ (.step ⟨(some 105), none, .read, .load false 1 (.tmp 104)⟩ (.step ⟨(some 108), none, .pure, .fieldAddr 5 (.tmp 9)⟩ (.alt ⟨none, none, .act, .store 1 (.tmp 108) (.tmp 105)⟩ .done
    .stop)))
    .stop))))
    .stop)))))))
    .skip)))
theorem r6_tail (x e : Ev) (hkx : ∀ k ∈ x.keys, k.length ≤ maxLen) (hk8 : x.keys.length ≤ 8) (rb eb j : Nat) (hj : j ≤ 1000) (h₀ : AHeap) (heb : h₀ eb = none) (a0 a3 a5 a12 a13 a14 a52 a53 : AV) (r : Run) (ho : Rok e.txn (j + 1) r) (h : AHeap) (hR : RB rb (h₀.set eb (.box (evC x))) h r) (k : List RT) (Q : AV → AHeap → Prop)
    (H : ∀ r' h', Rok e.txn (j + 1) r' → RB rb h₀ h' r' → RRun Try.prog Try.f6 116 k (Env.get [(0, a0), (3, a3), (5, a5), (9, ptr rb), (12, a12), (13, a13), (14, a14), (52, a52), (53, a53), (54, i64 ((j + 1 : Nat) : Int))]) h' Q) :
    RRun Try.prog Try.f6 116 (.code r6u :: .inBlock 5 :: .code (.region [⟨(some 109), none, .act, .bin .add (.tmp 54) (.const (.int .i64 1))⟩, ⟨(some 54), none, .act, .mv (.tmp 109)⟩]) :: k) (Env.get (l6 rb eb a0 a3 a5 a12 a13 a14 a52 a53 (i64 j))) h Q := by
  have hjj : ((j : Int) + 1) = ((j + 1 : Nat) : Int) := by omega
  have hne2 : ∀ {P : Prop}, P → P := fun p => p
  obtain ⟨c1, c2, g1, g2, g3, g4, g5, g6⟩ := hR.ex
  have hr1 := g1
  unfold rcell at hr1
  have he1 := hR.fr _ _ (AHeap.set_same h₀ eb (.box (evC x)))
  have hne : eb ≠ rb := fun e => by subst e; have := hR.b0; rw [AHeap.set_same] at this; cases this
  have H1 := fun r' h' o (R' : RB rb (h₀.set eb (.box (evC x))) h' r') => H r' h' o (R'.drop heb)
  clear H
  have hfin := H1 r h ho hR
  by_cases st0 : r.state = 0
  · by_cases k3 : x.kind = 3
    · have R2 := RB.put hR g1 g2 g3 g4 g5 g6 (r2 := { r with state := 1, ts := x.ts, keys := x.keys }) rfl rfl
      have hr2 : (h.set rb (.box (rcell { r with state := 1, ts := x.ts, keys := x.keys } c1 c2))) rb = some (.box (rcell { r with state := 1, ts := x.ts, keys := x.keys } c1 c2)) := AHeap.set_same _ _ _
      have hfin2 := H1 _ _ (⟨ho.txn, hk8, hkx, ho.seen, ho.spans⟩ : Rok e.txn (j + 1) { r with state := 1, ts := x.ts, keys := x.keys }) R2
      repeat' (first | refine S.nilK ?_ | (refine S.op rfl ?_; first | refine R.mv rfl ?_ | refine R.fieldAddr rfl ?_ | refine R.load (by decide) rfl (by (repeat' (first | assumption)); first | done | fail) rfl ?_ | refine R.pickT rfl rfl ?_ | ((first | refine S.eqInt rfl rfl ?_ ?_) <;> intro hlt <;> try (exfalso; omega))) | refine S.seq ?_ | refine S.region ?_ | refine S.condT rfl ?_)
      all_goals first
        | (exfalso; omega)
        | skip
      refine S.keep [0, 3, 5, 9, 11, 12, 13, 14, 52, 53, 54] rfl ?_
      refine S.tree (fun _ : Unit => l6 rb eb a0 a3 a5 a12 a13 a14 a52 a53 (i64 j)) (fun _ => h.set rb (.box (rcell { r with state := 1, ts := x.ts, keys := x.keys } c1 c2))) (fun _ => True) (t6a_ok rb eb x r c1 c2 a0 a3 a5 a12 a13 a14 a52 a53 (i64 j) h g1 he1 hne) (fun _ _ => ?_)
      unfold rcell at hr2
      repeat' (first | refine S.nilK ?_ | (refine S.op rfl ?_; first | refine R.mv rfl ?_ | refine R.fieldAddr rfl ?_ | refine R.load (by decide) rfl (by (repeat' (first | assumption | refine AHeap.so ?_ ?_)); first | done | fail) rfl ?_ | refine S.addI rfl rfl (by omega) ?_ | refine R.pickT rfl rfl ?_ | refine R.pickF rfl rfl ?_ | ((first | refine S.eqInt rfl rfl ?_ ?_) <;> intro hlt <;> try (exfalso; omega))) | refine S.skip rfl ?_ | refine S.seq ?_ | refine S.region ?_ | refine S.condF rfl ?_ | refine RRun.skip ?_ | refine RRun.inBlock ?_)
      all_goals first
        | (exfalso; omega)
        | skip
      all_goals
        rw [hjj]
        exact S.keep [0, 3, 5, 9, 12, 13, 14, 52, 53, 54] rfl hfin2
    · by_cases k4 : x.kind = 4
      · have R2 := RB.put hR g1 g2 g3 g4 g5 g6 (r2 := { r with state := 2, ts := x.ts, keys := x.keys }) rfl rfl
        have hr2 : (h.set rb (.box (rcell { r with state := 2, ts := x.ts, keys := x.keys } c1 c2))) rb = some (.box (rcell { r with state := 2, ts := x.ts, keys := x.keys } c1 c2)) := AHeap.set_same _ _ _
        have hfin2 := H1 _ _ (⟨ho.txn, hk8, hkx, ho.seen, ho.spans⟩ : Rok e.txn (j + 1) { r with state := 2, ts := x.ts, keys := x.keys }) R2
        repeat' (first | refine S.nilK ?_ | (refine S.op rfl ?_; first | refine R.mv rfl ?_ | refine R.fieldAddr rfl ?_ | refine R.load (by decide) rfl (by (repeat' (first | assumption)); first | done | fail) rfl ?_ | refine R.pickT rfl rfl ?_ | ((first | refine S.eqInt rfl rfl ?_ ?_) <;> intro hlt <;> try (exfalso; omega))) | refine S.seq ?_ | refine S.region ?_ | refine S.condT rfl ?_ | refine S.condF rfl ?_ | refine RRun.skip ?_)
        all_goals first
          | (exfalso; omega)
          | skip
        refine S.keep [0, 3, 5, 9, 11, 12, 13, 14, 52, 53, 54] rfl ?_
        refine S.tree (fun _ : Unit => l6 rb eb a0 a3 a5 a12 a13 a14 a52 a53 (i64 j)) (fun _ => h.set rb (.box (rcell { r with state := 2, ts := x.ts, keys := x.keys } c1 c2))) (fun _ => True) (t6b_ok rb eb x r c1 c2 a0 a3 a5 a12 a13 a14 a52 a53 (i64 j) h g1 he1 hne) (fun _ _ => ?_)
        unfold rcell at hr2
        repeat' (first | refine S.nilK ?_ | (refine S.op rfl ?_; first | refine R.mv rfl ?_ | refine S.addI rfl rfl (by omega) ?_) | refine S.region ?_ | refine RRun.inBlock ?_)
        all_goals first
          | (exfalso; omega)
          | skip
        all_goals
          rw [hjj]
          exact S.keep [0, 3, 5, 9, 12, 13, 14, 52, 53, 54] rfl hfin2
      · repeat' (first | refine S.nilK ?_ | (refine S.op rfl ?_; first | refine R.mv rfl ?_ | refine R.fieldAddr rfl ?_ | refine R.load (by decide) rfl (by (repeat' (first | assumption)); first | done | fail) rfl ?_ | refine S.addI rfl rfl (by omega) ?_ | refine R.pickT rfl rfl ?_ | ((first | refine S.eqInt rfl rfl ?_ ?_) <;> intro hlt <;> try (exfalso; omega))) | refine S.seq ?_ | refine S.region ?_ | refine S.condF rfl ?_ | refine RRun.skip ?_ | refine RRun.inBlock ?_)
        all_goals first
          | (exfalso; omega)
          | skip
        all_goals
          rw [hjj]
          exact S.keep [0, 3, 5, 9, 12, 13, 14, 52, 53, 54] rfl hfin
  · repeat' (first | refine S.nilK ?_ | (refine S.op rfl ?_; first | refine R.mv rfl ?_ | refine R.fieldAddr rfl ?_ | refine R.load (by decide) rfl (by (repeat' (first | assumption)); first | done | fail) rfl ?_ | refine S.addI rfl rfl (by omega) ?_ | refine R.pickF rfl rfl ?_ | ((first | refine S.eqInt rfl rfl ?_ ?_) <;> intro hlt <;> try (exfalso; omega))) | refine S.skip rfl ?_ | refine S.seq ?_ | refine S.region ?_ | refine S.condF rfl ?_ | refine RRun.skip ?_ | refine RRun.inBlock ?_)
    all_goals first
      | (exfalso; omega)
      | skip
    all_goals
      rw [hjj]
      exact S.keep [0, 3, 5, 9, 12, 13, 14, 52, 53, 54] rfl hfin
theorem r6_l2 (d : List Ev) (hd : d.length ≤ 30) (hsm : ∀ e ∈ d, smallE e) (hk : ∀ e ∈ d, ∀ k ∈ e.keys, k.length ≤ maxLen) (e : Ev) (pe rb : Nat) (h₀ : AHeap) (hpe : h₀ pe = some (.box (evC e))) (a3 a12 a13 a14 : AV) (k : List RT) (Q : AV → AHeap → Prop)
    (H : ∀ r h, RB rb h₀ h r → Rok e.txn 30 r → RRun Try.prog Try.f6 116 k (Env.get [(0, evsA d), (3, a3), (9, ptr rb), (12, a12), (13, a13), (14, a14)]) h Q) : ∀ (m j : Nat) (r : Run) (h : AHeap), j + m = d.length → Rok e.txn j r → RB rb h₀ h r →
    RRun Try.prog Try.f6 116 (.inLoop r6l2 :: .inBlock 4 :: k) (Env.get [(0, evsA d), (3, a3), (5, ptr pe), (9, ptr rb), (12, a12), (13, a13), (14, a14), (52, evsA d), (53, i64 d.length), (54, i64 j)]) h Q := by
  intro m
  induction m with
  | zero =>
    intro j r h hj ho hR
    refine RRun.inLoop ?_
    repeat' (first | refine S.nilK ?_ | (refine S.op rfl ?_; first | ((first | refine S.lss rfl rfl ?_ ?_) <;> intro hlt <;> try (exfalso; omega))) | refine S.seq ?_ | refine S.region ?_ | refine S.condF rfl ?_ | refine RRun.exit rfl ?_)
    exact S.keep [0, 3, 9, 12, 13, 14] rfl (H r h hR ⟨ho.txn, ho.keys, ho.key, by have := ho.seen; omega, by have := ho.spans; omega⟩)
  | succ m ih =>
    intro j r h hj ho hR
    have hje : j < d.length := by omega
    have h1 : (d.map evC)[((j : Nat) : Int).toNat]? = some (evC d[j]) := by simp [hje]
    have hsx := hsm _ (List.getElem_mem hje)
    have hkx := hk _ (List.getElem_mem hje)
    generalize d[j] = x at h1 hsx hkx
    obtain ⟨s1, s2, s3, s4⟩ := hsx
    have hpe' := hR.fr _ _ hpe
    have ihn := fun r' h' ho' hR' => ih (j + 1) r' h' (by omega) ho' hR'
    clear ih H
    have os := ho.seen
    have op := ho.spans
    refine RRun.inLoop ?_
    by_cases ht : x.txn.toNat = e.txn.toNat
    · by_cases k2 : x.kind = 2
      · repeat' (first | refine S.nilK ?_ | (refine S.op rfl ?_; first | refine R.indexAddr rfl rfl (by omega) h1 ?_ | refine R.fieldAddr rfl ?_ | refine R.loadR rfl rfl ?_ | refine R.load (by decide) rfl (by (repeat' (first | assumption | exact AHeap.set_same _ _ _ | refine AHeap.get_fresh ‹_› ?_)); first | done | fail) rfl ?_ | refine R.alloc rfl (fun b hb => ?_) | ((first | refine S.lss rfl rfl ?_ ?_ | refine S.eqInt rfl rfl ?_ ?_) <;> intro hlt <;> try (exfalso; omega))) | (refine S.op0 rfl ?_; first | refine S.storeS rfl rfl rfl (by rfl) rfl (by first | decide | exact Nat.le_refl _ | exact Nat.le_of_ble_eq_true rfl) ?_) | refine S.seq ?_ | refine S.region ?_ | refine S.condT rfl ?_ | refine S.condF rfl ?_ | refine RRun.skip ?_ | refine RRun.block ?_)
        all_goals first
          | (exfalso; omega)
          | skip
        revert b hb
        intro eb heb
        have R1 := hR.loc (.box (evC x)) heb
        obtain ⟨c1, c2, g1, g2, g3, g4, g5, g6⟩ := R1.ex
        have hr1 := g1
        unfold rcell at hr1
        have he1 : (h.set eb (.box (evC x))) eb = some (.box (evC x)) := AHeap.set_same _ _ _
        repeat' (first | (refine S.op rfl ?_; first | refine R.fieldAddr rfl ?_ | refine R.load (by decide) rfl (by (repeat' (first | assumption)); first | done | fail) rfl ?_))
        have hl1 : (r.seen.map seenC).length = r.seen.length := by simp
        have hl2 : (x.seen.map seenC).length = x.seen.length := by simp
        refine S.op rfl (S.appendT (ys := x.seen.map seenC) rfl g2 rfl (.sl _ _) rfl (.sl _ _) (seenC_one _) (by rw [hl1, hl2]; omega) (by rw [hl1, hl2]; omega) (fun c1' h2 q1 q2 q3 => ?_))
        have hr2 := q2 rb _ hr1 (tok_box g2 g1)
        have he2 := q2 eb _ he1 (tok_box g2 he1)
        have R2 := RB.app1 R1 g1 g2 g3 g4 g5 g6 q1 q2 q3 x.seen
        have g3' : OwnT (h2.set rb (.box (rcell { r with seen := r.seen ++ x.seen } c1' c2))) c2 := ownT_put (ownT_stay g3 q2 fun x hx hy => g6 x hy hx) (tok_box g3 g1)
        have q1' : OwnT (h2.set rb (.box (rcell { r with seen := r.seen ++ x.seen } c1' c2))) c1' := ownT_put q1 (fun e => by
          rcases q3 rb e with e | e
          · exact tok_box g2 g1 e
          · have e2 := g1.symm.trans e; cases e2)
        have hne : eb ≠ rb := fun e => by subst e; obtain ⟨_, _, y, _⟩ := hR.ex; rw [y] at heb; cases heb
        have hne2 := Ne.symm hne
        have hp2 : (h2.set rb (.box (rcell { r with seen := r.seen ++ x.seen } c1' c2))) rb = some (.box (rcell { r with seen := r.seen ++ x.seen } c1' c2)) := AHeap.set_same _ _ _
        have he3 : (h2.set rb (.box (rcell { r with seen := r.seen ++ x.seen } c1' c2))) eb = some (.box (evC x)) := (AHeap.set_other _ _ hne).trans he2
        have e4 : ∀ y, TokC c1' y → (h₀.set eb (.box (evC x))) y = none := fun y hy => by
          rcases q3 y hy with e | e
          · exact g4 y e
          · exact R1.nn e
        have e6 : ∀ y, TokC c1' y → ¬ TokC c2 y := fun y hy hz => by
          rcases q3 y hy with e | e
          · exact g6 y e hz
          · exact ownT_own g3 y hz e
        repeat' (first | refine S.nilK ?_ | (refine S.op rfl ?_; first | refine R.fieldAddr rfl ?_ | refine R.load (by decide) rfl (by (repeat' (first | assumption | exact AHeap.set_same _ _ _ | refine AHeap.so ?_ ?_)); first | done | fail) rfl ?_) | (refine S.op0 rfl ?_; first | refine S.store rfl rfl (by (repeat' (first | assumption)); first | done | fail) rfl rfl rfl (by rfl) rfl ?_) | refine S.region ?_)
        have hE : ABlk.box (over [u64 r.txn, i64 r.level, i64 r.state, u64 r.start, u64 r.ts, keysA r.keys, .sl 4 (r.seen.map seenC) c1, .sl 2 (r.spans.map spanC) c2] (0 + 6) [.sl 4 (r.seen.map seenC ++ x.seen.map seenC) c1']) = ABlk.box (rcell { r with seen := r.seen ++ x.seen } c1' c2) := by
          unfold rcell; simp [over]
        rw [hE]
        clear hE
        have hl3 : (r.spans.map spanC).length = r.spans.length := by simp
        refine S.op rfl (R.buildSl rfl rfl rfl (by decide) ?_)
        refine S.op rfl (S.appendT (ys := [spanC ⟨x.lo, x.hi⟩]) rfl g3' rfl (.sl _ _) rfl (.sl _ _) (spanC_one _) (by rw [hl3]; simp only [List.length_singleton]; omega) (by rw [hl3]; simp only [List.length_singleton]; omega) (fun c2' h3 p1 p2 p3 => ?_))
        have hp3 := p2 rb _ hp2 (tok_box g3' hp2)
        have he4 := p2 eb _ he3 (tok_box g3' he3)
        have R3 := RB.app2 R2 hp2 q1' g3' e4 g5 e6 p1 p2 p3 [⟨x.lo, x.hi⟩]
        repeat' (first | ((show RRunG _ _ _ (.code r6u :: _) _ _ _; refine Halt.h ?_)) | (refine S.op rfl ?_; first | refine R.fieldAddr rfl ?_) | (refine S.op0 rfl ?_; first | refine S.store rfl rfl (by (repeat' (first | assumption)); first | done | fail) rfl rfl rfl (by rfl) rfl ?_))
        refine ⟨?_⟩
        have hE2 : ABlk.box (over (rcell { r with seen := r.seen ++ x.seen } c1' c2) (0 + 7) [.sl 2 (r.spans.map spanC ++ [spanC ⟨x.lo, x.hi⟩]) c2']) = ABlk.box (rcell { r with seen := r.seen ++ x.seen, spans := r.spans ++ [⟨x.lo, x.hi⟩] } c1' c2') := by
          unfold rcell; simp [over]
        refine S.keep [0, 3, 5, 9, 11, 12, 13, 14, 52, 53, 54] rfl ?_
        rw [hE2]
        exact r6_tail x e hkx s2 rb eb j (by omega) h₀ (hR.nn heb) _ _ _ _ _ _ _ _ { r with seen := r.seen ++ x.seen, spans := r.spans ++ [⟨x.lo, x.hi⟩] } ⟨ho.txn, ho.keys, ho.key, by simp only [List.length_append]; omega, by simp only [List.length_append, List.length_singleton]; omega⟩ _ R3 _ _ ihn
      · repeat' (first | ((show RRunG _ _ _ (.code r6u :: _) _ _ _; refine Halt.h ?_)) | refine S.nilK ?_ | (refine S.op rfl ?_; first | refine R.indexAddr rfl rfl (by omega) h1 ?_ | refine R.fieldAddr rfl ?_ | refine R.loadR rfl rfl ?_ | refine R.load (by decide) rfl (by (repeat' (first | assumption | exact AHeap.set_same _ _ _ | refine AHeap.get_fresh ‹_› ?_)); first | done | fail) rfl ?_ | refine R.alloc rfl (fun b hb => ?_) | ((first | refine S.lss rfl rfl ?_ ?_ | refine S.eqInt rfl rfl ?_ ?_) <;> intro hlt <;> try (exfalso; omega))) | (refine S.op0 rfl ?_; first | refine S.storeS rfl rfl rfl (by rfl) rfl (by first | decide | exact Nat.le_refl _ | exact Nat.le_of_ble_eq_true rfl) ?_) | refine S.seq ?_ | refine S.region ?_ | refine S.condT rfl ?_ | refine S.condF rfl ?_ | refine RRun.skip ?_ | refine RRun.block ?_)
        all_goals first
          | (exfalso; omega)
          | skip
        refine ⟨?_⟩
        revert b hb
        intro eb heb
        exact S.keep [0, 3, 5, 9, 11, 12, 13, 14, 52, 53, 54] rfl (r6_tail x e hkx s2 rb eb j (by omega) h₀ (hR.nn heb) _ _ _ _ _ _ _ _ r ho.up _ (hR.loc _ heb) _ _ ihn)
    · repeat' (first | refine S.nilK ?_ | (refine S.op rfl ?_; first | refine R.indexAddr rfl rfl (by omega) h1 ?_ | refine R.mv rfl ?_ | refine R.fieldAddr rfl ?_ | refine R.loadR rfl rfl ?_ | refine R.load (by decide) rfl (by (repeat' (first | assumption | exact AHeap.set_same _ _ _ | refine AHeap.get_fresh ‹_› ?_)); first | done | fail) rfl ?_ | refine S.addI rfl rfl (by omega) ?_ | refine R.alloc rfl (fun b hb => ?_) | ((first | refine S.lss rfl rfl ?_ ?_ | refine S.eqInt rfl rfl ?_ ?_) <;> intro hlt <;> try (exfalso; omega))) | (refine S.op0 rfl ?_; first | refine S.storeS rfl rfl rfl (by rfl) rfl (by first | decide | exact Nat.le_refl _ | exact Nat.le_of_ble_eq_true rfl) ?_) | refine S.seq ?_ | refine S.region ?_ | refine S.condT rfl ?_ | refine RRun.skip ?_ | refine RRun.block ?_ | refine RRun.exit rfl ?_)
      all_goals first
        | (exfalso; omega)
        | skip
      rw [show ((j : Int) + 1) = ((j + 1 : Nat) : Int) by omega]
      exact S.keep [0, 3, 5, 9, 12, 13, 14, 52, 53, 54] rfl (ihn r _ ho.up ((hR.loc _ hb).drop (hR.nn hb)))
end Go.Proofs.Ythfolomknkobkaa

namespace Go.Proofs.Ythfolomknkobkaa
open Go.Av
open Go.Ad (Seen Span Run Dep)
theorem r6_l1 (D : List Ev) (hD : D.length ≤ 1000) (e : Ev) (pe : Nat) (h : AHeap) (hpe : h pe = some (.box (evC e))) (a0 a3 a12 a13 a14 : AV) (k : List RT) (Q : AV → AHeap → Prop)
    (H : ∀ bb : Bool, (bb = false → ∀ x ∈ D, x.kind = 1 → x.txn ≠ e.txn) → RRun Try.prog Try.f6 116 k (Env.get [(0, a0), (3, a3), (5, ptr pe), (6, bl bb), (12, a12), (13, a13), (14, a14)]) h Q) : ∀ (m j : Nat) (bb : Bool), j + m = D.length → (bb = false → ∀ x ∈ D.take j, x.kind = 1 → x.txn ≠ e.txn) →
    RRun Try.prog Try.f6 116 (.inLoop r6l1 :: .inBlock 2 :: k) (Env.get [(0, a0), (3, a3), (5, ptr pe), (6, bl bb), (12, a12), (13, a13), (14, a14), (24, evsA D), (25, i64 D.length), (26, i64 j)]) h Q := by
  intro m
  induction m with
  | zero =>
    intro j bb hj hf
    rw [List.take_of_length_le (by omega)] at hf
    refine RRun.inLoop ?_
    repeat' (first | refine S.nilK ?_ | (refine S.op rfl ?_; first | ((first | refine S.lss rfl rfl ?_ ?_) <;> intro hlt <;> try (exfalso; omega))) | refine S.seq ?_ | refine S.region ?_ | refine S.condF rfl ?_ | refine RRun.exit rfl ?_)
    exact S.keep [0, 3, 5, 6, 12, 13, 14] rfl (H bb hf)
  | succ m ih =>
    intro j bb hj hf
    have hje : j < D.length := by omega
    have h1 : (D.map evC)[((j : Nat) : Int).toNat]? = some (evC D[j]) := by simp [hje]
    have ht : D.take (j + 1) = D.take j ++ [D[j]] := by rw [List.take_add_one, List.getElem?_eq_getElem hje]; rfl
    have ihn := fun bb => ih (j + 1) bb (by omega)
    rw [ht] at ihn
    generalize D[j] = x at h1 ihn
    have hjj : ((j : Int) + 1) = ((j + 1 : Nat) : Int) := by omega
    have iT := ihn true (fun e => by cases e)
    have iF := fun (hb : bb = false) (hx : x.kind = 1 → x.txn ≠ e.txn) => ihn false (fun _ y hy => by
      rcases List.mem_append.1 hy with hy | hy
      · exact hf hb y hy
      · rw [List.mem_singleton.1 hy]; exact hx)
    clear ih ihn H
    refine RRun.inLoop ?_
    cases bb with
    | true =>
      repeat' (first | refine S.nilK ?_ | (refine S.op rfl ?_; first | refine R.indexAddr rfl rfl (by omega) h1 ?_ | refine R.mv rfl ?_ | refine R.loadR rfl rfl ?_ | refine S.addI rfl rfl (by omega) ?_ | refine R.pickT rfl rfl ?_ | refine R.alloc rfl (fun b hb => ?_) | ((first | refine S.lss rfl rfl ?_ ?_) <;> intro hlt <;> try (exfalso; omega))) | (refine S.op0 rfl ?_; first | refine S.storeS rfl rfl rfl (by rfl) rfl (by first | decide | exact Nat.le_refl _ | exact Nat.le_of_ble_eq_true rfl) ?_) | refine S.skip rfl ?_ | refine S.seq ?_ | refine S.region ?_ | refine S.condT rfl ?_ | refine RRun.skip ?_ | refine RRun.block ?_ | refine RRun.inBlock ?_)
      rw [hjj]
      exact S.keep [0, 3, 5, 6, 12, 13, 14, 24, 25, 26] rfl (S.drop (by repeat (first | exact AHeap.le.refl _ | refine AHeap.le.set ?_ _ (by (repeat' (first | assumption)); first | done | fail))) iT)
    | false =>
      by_cases hx : x.kind = 1 ∧ x.txn.toNat = e.txn.toNat
      · obtain ⟨x1, x2⟩ := hx
        clear iF
        repeat' (first | refine S.nilK ?_ | (refine S.op rfl ?_; first | refine R.indexAddr rfl rfl (by omega) h1 ?_ | refine R.mv rfl ?_ | refine R.fieldAddr rfl ?_ | refine R.loadR rfl rfl ?_ | refine R.load (by decide) rfl (by (repeat' (first | assumption | exact AHeap.set_same _ _ _ | refine AHeap.get_fresh ‹_› ?_)); first | done | fail) rfl ?_ | refine S.addI rfl rfl (by omega) ?_ | refine R.pickT rfl rfl ?_ | refine R.pickF rfl rfl ?_ | refine R.alloc rfl (fun b hb => ?_) | ((first | refine S.lss rfl rfl ?_ ?_ | refine S.eqInt rfl rfl ?_ ?_) <;> intro hlt <;> try (exfalso; omega))) | (refine S.op0 rfl ?_; first | refine S.storeS rfl rfl rfl (by rfl) rfl (by first | decide | exact Nat.le_refl _ | exact Nat.le_of_ble_eq_true rfl) ?_) | refine S.seq ?_ | refine S.region ?_ | refine S.condT rfl ?_ | refine RRun.skip ?_ | refine RRun.block ?_ | refine RRun.inBlock ?_)
        all_goals first
          | (exfalso; omega)
          | skip
        rw [hjj]
        exact S.keep [0, 3, 5, 6, 12, 13, 14, 24, 25, 26] rfl (S.drop (by repeat (first | exact AHeap.le.refl _ | refine AHeap.le.set ?_ _ (by (repeat' (first | assumption)); first | done | fail))) iT)
      · have i2 := iF rfl (fun e1 e2 => hx ⟨e1, by rw [e2]⟩)
        clear iF iT
        repeat' (first | refine S.nilK ?_ | (refine S.op rfl ?_; first | refine R.indexAddr rfl rfl (by omega) h1 ?_ | refine R.mv rfl ?_ | refine R.fieldAddr rfl ?_ | refine R.loadR rfl rfl ?_ | refine R.load (by decide) rfl (by (repeat' (first | assumption | exact AHeap.set_same _ _ _ | refine AHeap.get_fresh ‹_› ?_)); first | done | fail) rfl ?_ | refine S.addI rfl rfl (by omega) ?_ | refine R.pickT rfl rfl ?_ | refine R.pickF rfl rfl ?_ | refine R.alloc rfl (fun b hb => ?_) | ((first | refine S.lss rfl rfl ?_ ?_ | refine S.eqInt rfl rfl ?_ ?_) <;> intro hlt <;> try (exfalso; omega))) | (refine S.op0 rfl ?_; first | refine S.storeS rfl rfl rfl (by rfl) rfl (by first | decide | exact Nat.le_refl _ | exact Nat.le_of_ble_eq_true rfl) ?_) | refine S.skip rfl ?_ | refine S.seq ?_ | refine S.region ?_ | refine S.condT rfl ?_ | refine RRun.skip ?_ | refine RRun.block ?_ | refine RRun.inBlock ?_)
        all_goals first
          | (exfalso; omega)
          | skip
        all_goals
          rw [hjj]
          exact S.keep [0, 3, 5, 6, 12, 13, 14, 24, 25, 26] rfl (S.drop (by repeat (first | exact AHeap.le.refl _ | refine AHeap.le.set ?_ _ (by (repeat' (first | assumption)); first | done | fail))) i2)
structure Ris (D : List Ev) (l : List Run) : Prop where
  len : l.length ≤ D.length
  dif : (l.map (·.txn)).Nodup
  ok : ∀ r ∈ l, Rok r.txn 30 r
  of : ∀ r ∈ l, ∃ x ∈ D, x.kind = 1 ∧ x.txn = r.txn
theorem Ris.up {D : List Ev} {l : List Run} (R0 : Ris D l) (e : Ev) : Ris (D ++ [e]) l :=
  ⟨by rw [List.length_append]; have := R0.len; omega, R0.dif, R0.ok, fun r hr => by obtain ⟨x, hx, h⟩ := R0.of r hr; exact ⟨x, List.mem_append_left _ hx, h⟩⟩
theorem Ris.snoc {D : List Ev} {l : List Run} (R0 : Ris D l) {e : Ev} (hk : e.kind = 1) (hno : ∀ x ∈ D, x.kind = 1 → x.txn ≠ e.txn) {r : Run} (hr : Rok e.txn 30 r) : Ris (D ++ [e]) (l ++ [r]) := by
  have ht := hr.txn
  refine ⟨by simp only [List.length_append, List.length_singleton]; have := R0.len; omega, ?_, fun x hx => ?_, fun x hx => ?_⟩
  · rw [List.map_append, List.nodup_append]
    refine ⟨R0.dif, by simp, fun a ha b hb e1 => ?_⟩
    simp only [List.map_cons, List.map_nil, List.mem_singleton] at hb
    obtain ⟨y, hy, rfl⟩ := List.mem_map.1 ha
    obtain ⟨x, hx, k1, k2⟩ := R0.of y hy
    exact hno x hx k1 (by rw [k2, e1, hb, ht])
  · rcases List.mem_append.1 hx with hx | hx
    · exact R0.ok x hx
    · rw [List.mem_singleton.1 hx, ht]; exact hr
  · rcases List.mem_append.1 hx with hx | hx
    · obtain ⟨y, hy, h⟩ := R0.of x hx; exact ⟨y, List.mem_append_left _ hy, h⟩
    · rw [List.mem_singleton.1 hx]; exact ⟨e, List.mem_append_right _ (List.mem_singleton.2 rfl), hk, ht.symm⟩
theorem r6_l0 (d : List Ev) (hd : d.length ≤ 30) (hsm : ∀ e ∈ d, smallE e) (hk : ∀ e ∈ d, ∀ k ∈ e.keys, k.length ≤ maxLen) (h₀ : AHeap) (k : List RT) (Q : AV → AHeap → Prop)
    (H : ∀ l c h, Ris d l → Grow h₀ h c → RRun Try.prog Try.f6 116 k (Env.get [(3, .sl 8 (l.map runC) c)]) h Q) : ∀ (m i : Nat) (l : List Run) (c : Cap) (h : AHeap), i + m = d.length → Ris (d.take i) l → Grow h₀ h c →
    RRun Try.prog Try.f6 116 (.inLoop r6l0 :: .inBlock 0 :: k) (Env.get [(0, evsA d), (3, .sl 8 (l.map runC) c), (12, evsA d), (13, i64 d.length), (14, i64 i)]) h Q := by
  intro m
  induction m with
  | zero =>
    intro i l c h hi ho hg
    rw [List.take_of_length_le (by omega)] at ho
    refine RRun.inLoop ?_
    repeat' (first | refine S.nilK ?_ | (refine S.op rfl ?_; first | ((first | refine S.lss rfl rfl ?_ ?_) <;> intro hlt <;> try (exfalso; omega))) | refine S.seq ?_ | refine S.region ?_ | refine S.condF rfl ?_ | refine RRun.exit rfl ?_)
    exact S.keep [3] rfl (H l c h ho hg)
  | succ m ih =>
    intro i l c h hi ho hg
    have hie : i < d.length := by omega
    have h1 : (d.map evC)[((i : Nat) : Int).toNat]? = some (evC d[i]) := by simp [hie]
    have ht : d.take (i + 1) = d.take i ++ [d[i]] := by rw [List.take_add_one, List.getElem?_eq_getElem hie]; rfl
    have ihn := fun l c h => ih (i + 1) l c h (by omega)
    rw [ht] at ihn
    generalize d[i] = e at h1 ihn
    have hii : ((i : Int) + 1) = ((i + 1 : Nat) : Int) := by omega
    have hol := ho.len
    rw [List.length_take] at hol
    have hdl : (d.map evC).length = d.length := by simp
    have hll : (l.map runC).length = l.length := by simp
    clear ih H
    refine RRun.inLoop ?_
    by_cases hk1 : e.kind = 1
    · repeat' (first | refine S.nilK ?_ | (refine S.op rfl ?_; first | refine R.indexAddr rfl rfl (by omega) h1 ?_ | refine S.sliceH rfl rfl (by omega) (by rw [hdl]; omega) (by decide) ?_ | refine R.mv rfl ?_ | refine R.fieldAddr rfl ?_ | refine R.loadR rfl rfl ?_ | refine R.load (by decide) rfl (by (repeat' (first | exact AHeap.set_same _ _ _)); first | done | fail) rfl ?_ | refine R.len rfl ?_ | refine R.alloc rfl (fun b hb => ?_) | ((first | refine S.lss rfl rfl ?_ ?_ | refine S.eqInt rfl rfl ?_ ?_) <;> intro hlt <;> try (exfalso; omega))) | (refine S.op0 rfl ?_; first | refine S.storeS rfl rfl rfl (by rfl) rfl (by first | decide | exact Nat.le_refl _ | exact Nat.le_of_ble_eq_true rfl) ?_) | refine S.seq ?_ | refine S.region ?_ | refine S.condT rfl ?_ | refine S.condF rfl ?_ | refine RRun.skip ?_ | refine RRun.block ?_)
      all_goals first
        | (exfalso; omega)
        | skip
      revert b hb
      intro pe hpe
      have hpe1 : (h.set pe (.box (evC e))) pe = some (.box (evC e)) := AHeap.set_same _ _ _
      have hg1 := hg.base (.box (evC e)) hpe
      have hE : (d.map evC).take ((i : Int)).toNat = (d.take i).map evC := by simp [List.map_take]
      have hEl : ((d.take i).map evC).length = (d.take i).length := by simp
      rw [hE, hEl]
      refine RRun.loopIn (S.keep [0, 3, 5, 6, 12, 13, 14, 24, 25, 26] rfl (r6_l1 (d.take i) (by rw [List.length_take]; omega) e pe (h.set pe (.box (evC e))) hpe1 _ _ _ _ _ _ _ (fun bb hbb => ?_) (d.take i).length 0 false (by omega) (fun _ x hx => by cases hx)))
      cases bb with
      | true =>
        repeat' (first | refine S.nilK ?_ | (refine S.op rfl ?_; first | refine R.mv rfl ?_ | refine S.addI rfl rfl (by omega) ?_) | refine S.seq ?_ | refine S.region ?_ | refine S.condT rfl ?_ | refine RRun.exit rfl ?_)
        rw [hii]
        exact S.keep [0, 3, 12, 13, 14] rfl (ihn l c _ (ho.up e) hg1)
      | false =>
        have hno := hbb rfl
        repeat' (first | ((show RRunG _ _ _ (.code (.loop r6l2) :: _) _ _ _; refine Halt.h ?_)) | refine S.nilK ?_ | (refine S.op rfl ?_; first | refine R.mv rfl ?_ | refine R.fieldAddr rfl ?_ | refine R.load (by decide) rfl (by (repeat' (first | assumption)); first | done | fail) rfl ?_ | refine R.len rfl ?_ | refine R.alloc rfl (fun b hb => ?_) | refine R.build rfl rfl ?_) | (refine S.op0 rfl ?_; first | refine S.storeS rfl rfl rfl (by rfl) rfl (by first | decide | exact Nat.le_refl _ | exact Nat.le_of_ble_eq_true rfl) ?_) | refine S.seq ?_ | refine S.region ?_ | refine S.condF rfl ?_ | refine RRun.skip ?_ | refine RRun.block ?_)
        refine ⟨?_⟩
        revert b hb
        intro rb hrb
        rw [hdl]
        have hR0 : RB rb (h.set pe (.box (evC e))) ((h.set pe (.box (evC e))).set rb (.box (rcell ⟨e.txn, e.level, 0, e.ts, 0, [], [], []⟩ .full .full))) ⟨e.txn, e.level, 0, e.ts, 0, [], [], []⟩ := by
          refine ⟨⟨.full, .full, AHeap.set_same _ _ _, .inl rfl, .inl rfl, fun x ⟨u, s, e⟩ => (by cases e), fun x ⟨u, s, e⟩ => (by cases e), fun x ⟨u, s, e⟩ => (by cases e)⟩, fun x o hx => ?_, hrb⟩
          rw [AHeap.set_other _ _ (fun e => by subst e; rw [hrb] at hx; cases hx)]; exact hx
        refine S.drop (h₀ := (h.set pe (.box (evC e))).set rb (.box (rcell ⟨e.txn, e.level, 0, e.ts, 0, [], [], []⟩ .full .full))) ((AHeap.le.refl _).bothW rb (.box (.cons (.refl _) (.cons (.refl _) (.cons (.refl _) (.cons (.refl _) (.cons (.refl _) (.cons (.nilSl 1 (c := .ro) trivial) (.cons (.nilSl 4 (c := .full) trivial) (.cons (.nilSl 2 (c := .full) trivial) .nil)))))))))) ?_
        refine RRun.loopIn (S.keep [0, 3, 5, 9, 12, 13, 14, 52, 53, 54] rfl (r6_l2 d hd hsm hk e pe rb _ hpe1 _ _ _ _ _ _ (fun r h2 hR hr => ?_) d.length 0 ⟨e.txn, e.level, 0, e.ts, 0, [], [], []⟩ _ (by omega) ⟨rfl, by simp, fun k hk => (by cases hk), by simp, by simp⟩ hR0))
        obtain ⟨c1, c2, g1, g2, g3, g4, g5, g6⟩ := hR.ex
        have hle : ((h.set pe (.box (evC e))).set rb (.box (runC r))).le h2 := fun x o hx => by
          by_cases hxr : x = rb
          · subst hxr
            rw [AHeap.set_same] at hx
            cases hx
            exact ⟨_, g1, .box (.cons (.refl _) (.cons (.refl _) (.cons (.refl _) (.cons (.refl _) (.cons (.refl _) (.cons (.refl _) (.cons (.toRo _ _ _) (.cons (.toRo _ _ _) .nil))))))))⟩
          · rw [AHeap.set_other _ _ hxr] at hx
            exact ⟨o, hR.fr x o hx, .refl o⟩
        refine S.drop hle ?_
        have hrb1 : ((h.set pe (.box (evC e))).set rb (.box (runC r))) rb = some (.box (runC r)) := AHeap.set_same _ _ _
        have hg2 := hg1.base (.box (runC r)) hrb
        generalize (h.set pe (.box (evC e))).set rb (.box (runC r)) = h3 at hrb1 hg2
        repeat' (first | (refine S.op rfl ?_; first | refine R.mv rfl ?_ | refine R.load (by decide) rfl (by (repeat' (first | assumption)); first | done | fail) rfl ?_) | refine S.region ?_)
        refine S.op rfl (R.buildSl rfl rfl rfl (by decide) ?_)
        refine S.op rfl (S.appendG (ys := [runC r]) rfl hg2 rfl (.sl _ _) rfl (.sl _ _) (run_one r) (by rw [hll]; simp only [List.length_singleton]; omega) (by rw [hll]; simp only [List.length_singleton]; omega) (fun c' h' hg' hbox => ?_))
        repeat' (first | refine S.nilK ?_ | (refine S.op rfl ?_; first | refine R.mv rfl ?_ | refine S.addI rfl rfl (by omega) ?_) | refine S.region ?_ | refine RRun.inBlock ?_)
        rw [hii, show l.map runC ++ [runC r] = (l ++ [r]).map runC by simp]
        exact S.keep [0, 3, 12, 13, 14] rfl (ihn (l ++ [r]) c' h' (ho.snoc hk1 hno hr) hg')
    · repeat' (first | refine S.nilK ?_ | (refine S.op rfl ?_; first | refine R.indexAddr rfl rfl (by omega) h1 ?_ | refine R.mv rfl ?_ | refine R.fieldAddr rfl ?_ | refine R.loadR rfl rfl ?_ | refine R.load (by decide) rfl (by (repeat' (first | exact AHeap.set_same _ _ _)); first | done | fail) rfl ?_ | refine S.addI rfl rfl (by omega) ?_ | refine R.alloc rfl (fun b hb => ?_) | ((first | refine S.lss rfl rfl ?_ ?_ | refine S.eqInt rfl rfl ?_ ?_) <;> intro hlt <;> try (exfalso; omega))) | (refine S.op0 rfl ?_; first | refine S.storeS rfl rfl rfl (by rfl) rfl (by first | decide | exact Nat.le_refl _ | exact Nat.le_of_ble_eq_true rfl) ?_) | refine S.seq ?_ | refine S.region ?_ | refine S.condT rfl ?_ | refine RRun.skip ?_ | refine RRun.block ?_ | refine RRun.exit rfl ?_)
      all_goals first
        | (exfalso; omega)
        | skip
      rw [hii]
      exact S.keep [0, 3, 12, 13, 14] rfl (ihn l c _ (ho.up e) (hg.base _ hb))
theorem runs_spec (d : List Ev) (hs : small d) (hk : ∀ e ∈ d, ∀ k ∈ e.keys, k.length ≤ maxLen) (h : AHeap) : ACalls Try.prog 6 [evsA d] h (fun x h' => (∃ l, Few l ∧ x = runsA l) ∧ h' = h) := by
  obtain ⟨c', hc1, hc2⟩ := res6
  refine ACalls.weak (ACalls.enter Try.func6 hc1 Try.ntmps6 hc2 (Nat.le_of_ble_eq_true rfl) rfl ?_)
  have hdl : (d.map evC).length = d.length := by simp
  repeat' (first | refine S.nilK ?_ | (refine S.op rfl ?_; first | refine R.mv rfl ?_ | refine R.len rfl ?_) | refine S.seq ?_ | refine S.region ?_ | refine RRun.block ?_)
  rw [hdl]
  refine RRun.loopIn (S.keep [0, 3, 12, 13, 14] rfl (RRun.envs (.cons 0 (.refl _) (.cons 3 (.nilSl 8 (c := .full) trivial) (.cons 12 (.refl _) (.cons 13 (.refl _) (.cons 14 (.refl _) .nil))))) (r6_l0 d hs.2 hs.1 hk h _ _ (fun l c h2 ho hg => ?_) d.length 0 [] .full h (by omega) ⟨by simp, by simp, fun r hr => (by cases hr), fun r hr => (by cases hr)⟩ (Grow.start h))))
  repeat' (first | refine S.nilK ?_ | (refine S.op rfl ?_; first | refine R.mv rfl ?_) | refine S.seq ?_ | refine S.region ?_)
  apply S.ret rr6
  case hx => repeat (first | exact ResAt.nil | apply ResAt.tmp rfl)
  refine ⟨_, h, .toRo _ _ _, hg.le, ⟨l, ?_, rfl⟩, rfl⟩
  have h2 := hs.2
  have h3 := ho.len
  exact ⟨by omega, ho.dif, fun r hr => (ho.ok r hr).keys, fun r hr => by have := (ho.ok r hr).seen; omega, fun r hr => by have := (ho.ok r hr).spans; omega, fun r hr => (ho.ok r hr).key⟩
end Go.Proofs.Ythfolomknkobkaa

namespace Go.Proofs.Ythfolomknkobkaa
open Go.Av
open Go.Ad (Seen Span Run Dep deps)
def r3l0 : RCode :=
  (.seq (.region [
    ⟨(some 26), none, .act, .bin .lss (.tmp 25) (.tmp 24)⟩])
  (.seq (.cond (.tmp 26)
   .skip
   (.exit 0))
  (.seq (.block 1
   (.seq (.region [
     ⟨(some 27), none, .act, .mv (.tmp 25)⟩,
     ⟨(some 6), none, .act, .mv (.tmp 27)⟩])
   (.seq (.region [
     ⟨(some 28), none, .pure, .mv (.tmp 4)⟩,
     ⟨(some 29), none, .pure, .mv (.tmp 6)⟩,
     ⟨(some 30), none, .pure, .indexAddr 3 (.tmp 28) (.tmp 29)⟩,
     ⟨(some 31), none, .read, .load true 3 (.tmp 30)⟩,
     ⟨(some 32), none, .pure, .mv (.tmp 5)⟩,
     ⟨(some 33), none, .pure, .mv (.tmp 6)⟩,
     ⟨(some 34), none, .pure, .indexAddr 3 (.tmp 32) (.tmp 33)⟩,
     ⟨(some 35), none, .read, .load true 3 (.tmp 34)⟩,
     ⟨(some 36), none, .pure, .eq true (.agg [(0, .int), (1, .int), (2, .int)]) (.tmp 31) (.tmp 35)⟩])
   (.cond (.tmp 36)
    (.seq (.region [
      ⟨(some 2), none, .act, .mv (.const (.bool false))⟩])
    .ret)
    .skip))))
  (.region [
    ⟨(some 37), none, .act, .bin .add (.tmp 25) (.const (.int .i64 1))⟩,
    ⟨(some 25), none, .act, .mv (.tmp 37)⟩]))))
def r3 : RCode :=
  (.seq (.region [
    ⟨(some 2), none, .act, .mv (.const (.bool false))⟩])
  (.seq (.seq (.region [
    ⟨(some 7), none, .act, .call 4 []⟩,
    ⟨(some 8), none, .act, .un .not (.tmp 7)⟩])
  (.cond (.tmp 8)
   (.seq (.region [
     ⟨(some 2), none, .act, .mv (.const (.bool false))⟩])
   .ret)
   .skip))
  (.seq (.seq (.region [
    ⟨(some 9), none, .act, .mv (.tmp 0)⟩,
    ⟨(some 10), none, .act, .call 5 [(.tmp 9)]⟩,
    ⟨(some 11), none, .act, .un .not (.tmp 10)⟩])
  (.cond (.tmp 11)
   (.seq (.region [
     ⟨(some 2), none, .act, .mv (.const (.bool true))⟩])
   .ret)
   .skip))
  (.seq (.region [
    ⟨(some 12), none, .act, .mv (.tmp 0)⟩,
    ⟨(some 13), none, .act, .call 6 [(.tmp 12)]⟩,
    ⟨(some 3), none, .act, .mv (.tmp 13)⟩])
  (.seq (.region [
    ⟨(some 14), none, .act, .mv (.tmp 3)⟩,
    ⟨(some 15), none, .act, .call 7 [(.tmp 14)]⟩,
    ⟨(some 16), none, .act, .mv (.tmp 3)⟩,
    ⟨(some 17), none, .act, .call 8 [(.tmp 16)]⟩,
    ⟨(some 4), none, .act, .mv (.tmp 15)⟩,
    ⟨(some 5), none, .act, .mv (.tmp 17)⟩])
  (.seq (.seq (.region [
    ⟨(some 18), none, .act, .mv (.tmp 4)⟩,
    ⟨(some 19), none, .act, .len (.tmp 18)⟩,
    ⟨(some 20), none, .act, .mv (.tmp 5)⟩,
    ⟨(some 21), none, .act, .len (.tmp 20)⟩,
    ⟨(some 22), none, .act, .eq true .int (.tmp 19) (.tmp 21)⟩])
  (.cond (.tmp 22)
   (.seq (.region [
     ⟨(some 2), none, .act, .mv (.const (.bool false))⟩])
   .ret)
   .skip))
  (.seq (.seq (.region [
    ⟨(some 23), none, .act, .mv (.tmp 4)⟩,
    ⟨(some 24), none, .act, .len (.tmp 23)⟩,
    ⟨(some 25), none, .act, .mv (.const (.int .i64 0))⟩])
  (.block 0
   (.loop r3l0)))
  (.seq (.region [
    ⟨(some 2), none, .act, .mv (.const (.bool true))⟩])
  .ret))))))))
theorem res3 : ∃ c, Try.f3.body = some c ∧ resCode Try.prog 38 c = some r3 := ⟨_, rfl, by kernel_rfl⟩
theorem rr3 : resRes Try.prog Try.f3.results.toList = some [.tmp 2] := by kernel_rfl
theorem law_loop (D : List Dep) (hD : D.length ≤ 1000000) (h : AHeap) (k : List RT) (Q : AV → AHeap → Prop)
    (H : RRun Try.prog Try.f3 38 k (Env.get []) h Q) : ∀ (m i : Nat), i + m = D.length →
    RRun Try.prog Try.f3 38 (.inLoop r3l0 :: .inBlock 0 :: k) (Env.get [(4, depsA D), (5, depsA D), (24, i64 D.length), (25, i64 i)]) h Q := by
  intro m
  induction m with
  | zero =>
    intro i hi
    refine RRun.inLoop ?_
    repeat' (first | refine S.nilK ?_ | (refine S.op rfl ?_; first | ((first | refine S.lss rfl rfl ?_ ?_) <;> intro hlt <;> try (exfalso; omega))) | refine S.seq ?_ | refine S.region ?_ | refine S.condF rfl ?_ | refine RRun.exit rfl ?_)
    exact S.keep [] rfl H
  | succ m ih =>
    intro i hi
    have hie : i < D.length := by omega
    have h1 : (D.map depC)[((i : Nat) : Int).toNat]? = some (depC D[i]) := by simp [hie]
    generalize D[i] = x at h1
    have hw : decide (x = x) = true := by simp
    refine RRun.inLoop ?_
    repeat' (first | refine S.nilK ?_ | (refine S.op rfl ?_; first | refine R.indexAddr rfl rfl (by omega) h1 ?_ | refine S.eqDep hw rfl rfl ?_ | refine R.mv rfl ?_ | refine R.loadR rfl rfl ?_ | refine S.addI rfl rfl (by omega) ?_ | ((first | refine S.lss rfl rfl ?_ ?_) <;> intro hlt <;> try (exfalso; omega))) | refine S.seq ?_ | refine S.region ?_ | refine S.condT rfl ?_ | refine S.condF rfl ?_ | refine RRun.skip ?_ | refine RRun.block ?_ | refine RRun.inBlock ?_)
    rw [show ((i : Int) + 1) = ((i + 1 : Nat) : Int) by omega]
    exact S.keep [4, 5, 24, 25] rfl (ih (i + 1) (by omega))
theorem adyaDeps_spec (d : List Ev) (hd : d.length ≤ 9223372036854775807) (hb : ∀ e ∈ d, e.lo.length ≤ 140737488355328 ∧ e.hi.length ≤ 140737488355328) (hk : ∀ e ∈ d, ∀ k ∈ e.keys, k.length ≤ maxLen) (h : AHeap) : ACalls Try.prog 3 [evsA d] h (fun x h' => x = bl true ∧ h' = h) := by
  have c4 := awake_spec
  have c5 := small_spec d hd hb
  obtain ⟨c, hc1, hc2⟩ := res3
  refine ACalls.weak (ACalls.enter Try.func3 hc1 Try.ntmps3 hc2 (Nat.le_of_ble_eq_true rfl) rfl ?_)
  repeat' (first | ((show RChain _ (⟨(some 10), _, _, _⟩ :: _) _ _ _; refine Halt.h ?_)) | refine S.nilK ?_ | (refine S.op rfl ?_; first | refine R.callQ (by decide) rfl (c4 _) ?_ | refine R.mv rfl ?_ | refine R.not rfl ?_) | refine S.seq ?_ | refine S.region ?_ | refine S.condF rfl ?_ | refine RRun.skip ?_)
  refine ⟨?_⟩
  refine S.op rfl (R.call rfl rfl ((c5 _).mono ?_))
  rintro _ _ ⟨⟨b, rfl, hsm⟩, rfl⟩
  cases b with
  | false =>
    repeat' (first | refine S.nilK ?_ | (refine S.op rfl ?_; first | refine R.mv rfl ?_ | refine R.not rfl ?_) | refine S.seq ?_ | refine S.region ?_ | refine S.condT rfl ?_)
    apply S.ret rr3
    case hx => repeat (first | exact ResAt.nil | apply ResAt.tmp rfl)
    exact ⟨_, _, .refl _, (by repeat (first | exact AHeap.le.refl _)), rfl, rfl⟩
  | true =>
    have c6 := runs_spec d (hsm rfl) hk
    repeat' (first | ((show RChain _ (⟨(some 13), _, _, _⟩ :: _) _ _ _; refine Halt.h ?_)) | refine S.nilK ?_ | (refine S.op rfl ?_; first | refine R.mv rfl ?_ | refine R.not rfl ?_) | refine S.seq ?_ | refine S.region ?_ | refine S.condF rfl ?_ | refine RRun.skip ?_)
    refine ⟨?_⟩
    refine S.op rfl (R.call rfl rfl ((c6 _).mono ?_))
    rintro _ _ ⟨⟨l, F, rfl⟩, rfl⟩
    have c7 := deps_spec F
    have c8 := rdeps_spec F
    have hdl := few_deps_len F
    generalize deps l (keysS l) = D at c7 c8 hdl
    have hlen : (D.map depC).length = D.length := by simp
    repeat' (first | ((show RRunG _ _ _ (.code (.loop r3l0) :: _) _ _ _; refine Halt.h ?_)) | refine S.nilK ?_ | (refine S.op rfl ?_; first | refine R.callQ (by decide) rfl (c7 _) ?_ | refine R.callQ (by decide) rfl (c8 _) ?_ | refine S.eqIntSame rfl rfl ?_ | refine R.mv rfl ?_ | refine R.len rfl ?_) | refine S.seq ?_ | refine S.region ?_ | refine S.condF rfl ?_ | refine RRun.skip ?_ | refine RRun.block ?_)
    refine ⟨?_⟩
    rw [hlen]
    refine RRun.loopIn (S.keep [4, 5, 24, 25] rfl (law_loop D (by omega) _ _ _ ?_ D.length 0 (by omega)))
    repeat' (first | refine S.nilK ?_ | (refine S.op rfl ?_; first | refine R.mv rfl ?_) | refine S.seq ?_ | refine S.region ?_)
    apply S.ret rr3
    case hx => repeat (first | exact ResAt.nil | apply ResAt.tmp rfl)
    exact ⟨_, _, .refl _, (by repeat (first | exact AHeap.le.refl _)), rfl, rfl⟩
end Go.Proofs.Ythfolomknkobkaa
