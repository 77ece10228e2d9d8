/-
  AdyaDeps answers true for every history
-/
import Derived.Test.YthfolomknkobkaaP13
set_option linter.unusedVariables false
namespace Go.Av
def ALe (x y : AV) : Prop := ∀ st u, VRel st x u → VRel st y u
theorem ALe.refl (x : AV) : ALe x x := fun _ _ h => h
theorem ALe.trans {x y z : AV} (h1 : ALe x y) (h2 : ALe y z) : ALe x z := fun st u h => h2 st u (h1 st u h)
theorem ALe.any (x : AV) : ALe x .any := fun _ u _ => .any u
theorem ALe.nilSl (sz : Nat) {c : Cap} (hc : c.plain) : ALe (.v (.slice none 0 0)) (.sl sz [] c) := fun st u h => by cases h; exact .nil sz c none hc
theorem ALe.toRo (sz : Nat) (es : List (List AV)) (c : Cap) : ALe (.sl sz es c) (.sl sz es .ro) := fun st u h => h.toRo
inductive ALes : List AV → List AV → Prop
  | nil : ALes [] []
  | cons {x y : AV} {xs ys : List AV} : ALe x y → ALes xs ys → ALes (x :: xs) (y :: ys)
theorem ALes.refl : ∀ (l : List AV), ALes l l
  | [] => .nil
  | x :: l => .cons (.refl x) (ALes.refl l)
theorem ALes.rel {st : Store} : ∀ {xs ys : List AV} {us : List Value}, ALes xs ys → VRels st xs us → VRels st ys us
  | _, _, _, .nil, .nil => .nil
  | _, _, _, .cons h1 h2, .cons g1 g2 => .cons (h1 _ _ g1) (ALes.rel h2 g2)
theorem ALe.tu {xs ys : List AV} (h : ALes xs ys) : ALe (.tu xs) (.tu ys) := fun st u hu => by cases hu with | tu _ vs g => exact .tu _ vs (h.rel g)
theorem ALe.ag {xs ys : List AV} (h : ALes xs ys) : ALe (.ag xs) (.ag ys) := fun st u hu => by cases hu with | ag _ vs g => exact .ag _ vs (h.rel g)
inductive BLe : ABlk → ABlk → Prop
  | refl (o : ABlk) : BLe o o
  | box {xs ys : List AV} : ALes xs ys → BLe (.box xs) (.box ys)
def AHeap.le (h H : AHeap) : Prop := ∀ b o, h b = some o → ∃ o', H b = some o' ∧ BLe o' o
theorem AHeap.le.refl (h : AHeap) : h.le h := fun _ o e => ⟨o, e, .refl o⟩
theorem AHeap.le.set {h H : AHeap} (hle : h.le H) {b : Nat} (o : ABlk) (hb : h b = none) : h.le (H.set b o) := fun x y e => by
  have hne : x ≠ b := fun e' => by subst e'; rw [hb] at e; cases e
  rw [AHeap.set_other H _ hne]; exact hle x y e
theorem AHeap.le.bothW {h H : AHeap} (hle : h.le H) (b : Nat) {o o' : ABlk} (ho : BLe o' o) : (h.set b o).le (H.set b o') := fun x y e => by
  by_cases hx : x = b
  · subst hx; simp only [AHeap.set_same, Option.some.injEq] at e; subst e; exact ⟨o', by simp, ho⟩
  · rw [AHeap.set_other _ _ hx] at e ⊢; exact hle x y e
theorem AHeap.le.both {h H : AHeap} (hle : h.le H) (b : Nat) (o : ABlk) : (h.set b o).le (H.set b o) := hle.bothW b (.refl o)
theorem AHeap.le.own {h₀ h : AHeap} {c : Cap} (ho : Own h₀ c h) : h₀.le h := by
  cases ho with
  | full => exact .refl _
  | tok hb => exact (AHeap.le.refl _).set _ hb
theorem AHeap.get_fresh {h : AHeap} {b c : Nat} {o x : ABlk} (hb : h b = none) (hc : h c = some o) : (h.set b x) c = some o := by
  rw [AHeap.set_other]; exact hc
  intro e; subst e; rw [hb] at hc; cases hc
theorem AHeap.fresh_set {h : AHeap} {b c : Nat} {o : ABlk} (hc : (h.set b o) c = none) : c ≠ b ∧ h c = none := by
  have hne : c ≠ b := fun e => by subst e; simp at hc
  exact ⟨hne, by rwa [AHeap.set_other _ _ hne] at hc⟩
theorem AHeap.ne_of {h : AHeap} {b c : Nat} {o : ABlk} (hb : h b = none) (hc : h c = some o) : c ≠ b := fun e => by subst e; rw [hb] at hc; cases hc
theorem AHeap.so {h : AHeap} {b c : Nat} {o : ABlk} {x : Option ABlk} (hn : c ≠ b) (hx : h c = x) : (h.set b o) c = x := by rw [AHeap.set_other h o hn]; exact hx
theorem AHeap.n1 {h : AHeap} {b c : Nat} {o : ABlk} (hc : (h.set b o) c = none) : c ≠ b := (AHeap.fresh_set hc).1
theorem AHeap.n2 {h : AHeap} {b c : Nat} {o : ABlk} (hc : (h.set b o) c = none) : b ≠ c := Ne.symm (AHeap.fresh_set hc).1
theorem AHeap.n4 {h : AHeap} {b c : Nat} {o : ABlk} (hb : h b = none) (hc : h c = some o) : b ≠ c := Ne.symm (AHeap.ne_of hb hc)
theorem AHeap.n5 {h : AHeap} {b b' c : Nat} {o o' : ABlk} (hc : ((h.set b o).set b' o') c = none) : c ≠ b := (AHeap.fresh_set (AHeap.fresh_set hc).2).1
theorem AHeap.n6 {h : AHeap} {b b' c : Nat} {o o' : ABlk} (hc : ((h.set b o).set b' o') c = none) : b ≠ c := Ne.symm (AHeap.fresh_set (AHeap.fresh_set hc).2).1
theorem AHeap.z1 {h : AHeap} {b c : Nat} {o : ABlk} (hc : (h.set b o) c = none) : h c = none := (AHeap.fresh_set hc).2
theorem AHeap.z3 {h : AHeap} {b b' b2 c : Nat} {o o' o2 : ABlk} (hc : (((h.set b o).set b' o').set b2 o2) c = none) : h c = none := (AHeap.fresh_set (AHeap.fresh_set (AHeap.fresh_set hc).2).2).2
theorem stab_le {h H : AHeap} (hle : h.le H) (w : World) : (stab H w).le (stab h w) := by
  intro a u ha
  cases hb : h a.block with
  | none => simp only [stab, hb]; exact stab_cell ha
  | some o =>
    obtain ⟨o', h1, h2⟩ := hle _ _ hb
    cases h2 with
    | refl => simp only [stab, hb, h1] at ha ⊢; exact ha
    | box => simp [stab, h1] at ha
theorem Rel.sub {h H : AHeap} (hle : h.le H) {w : World} (hr : Rel H w) : Rel h w ∧ Evol H w h w := by
  refine ⟨fun b o ho => ?_, rfl, rfl, rfl, Nat.le_refl _, stab_le hle w, fun b _ hn => ⟨?_, rfl⟩⟩
  · obtain ⟨o', h1, h2⟩ := hle b o ho
    obtain ⟨x, hx, hb⟩ := hr b o' h1
    cases h2 with
    | refl => exact ⟨x, hx, hb.mono (stab_le hle w)⟩
    | box ha =>
      obtain ⟨c, t, rfl, hv⟩ := hb
      exact ⟨_, hx, c, t, rfl, (ha.rel hv).mono (stab_le hle w)⟩
  · cases hb : h b with
    | none => rfl
    | some o => obtain ⟨o', h1, _⟩ := hle b o hb; rw [h1] at hn; cases hn
def Weak (K : AV → AHeap → Prop) (x : AV) (h : AHeap) : Prop := ∃ y h', ALe x y ∧ h'.le h ∧ K y h'
theorem ACalls.weak {P : Program} {f : FuncId} {args : List AV} {h : AHeap} {K : AV → AHeap → Prop} (hc : ACalls P f args h (Weak K)) : ACalls P f args h K :=
  fun vs w h1 h2 => (hc vs w h1 h2).mono fun e w' ⟨u, x, h', e1, ⟨y, h'', k1, k2, k3⟩, e3, e4, e5⟩ => by
    obtain ⟨r1, r2⟩ := e4.sub k2
    exact ⟨u, y, h'', e1, k3, (k1 _ _ e3).mono r2.stab, r1, e5.trans r2⟩
theorem ACalls.args {P : Program} {f : FuncId} {args args' : List AV} {h : AHeap} {K : AV → AHeap → Prop} (hc : ACalls P f args' h K) (ha : ALes args args') : ACalls P f args h K :=
  fun vs w h1 h2 => hc vs w (ha.rel h1) h2
section
variable {P : Program} {ro : Option Nat} {n : Nat} {h : AHeap} {Q : Option Code → AEnv → AHeap → Prop} {K : AV → AHeap → Prop} {E : AEnv} {c : Cls}
theorem RRun.sub {k : List RT} {h' : AHeap} (hle : h'.le h) (H : RRunG P ro n k E h' Q) : RRunG P ro n k E h Q :=
  RRun.weaken (fun _ _ e => e) (fun w hr => hr.sub hle) H
theorem RRun.env {k : List RT} {E' : AEnv} (hE : ∀ t y, E' t = some y → ∃ x, E t = some x ∧ ALe x y) (H : RRunG P ro n k E' h Q) : RRunG P ro n k E h Q := by
  intro todo ht ds a w hs b cs hb
  have hs' : St n ds E' h a w := ⟨hs.defers, hs.size, fun t y hy => by
    obtain ⟨x, h1, h2⟩ := hE t y hy
    obtain ⟨u, h3, h4⟩ := hs.env t x h1
    exact ⟨u, h3, h2 _ _ h4⟩, hs.rel⟩
  exact H todo ht ds a w hs' b cs hb
theorem ROpS.weak {r : ROp} (hc : c = .act) (H : ROpS P c r E h (Weak K)) : ROpS P c r E h K := by
  subst hc
  intro o ho ro' a w h1 h2
  exact Oper.wpIn_mono (fun a' w' ⟨u, x, h', e1, ⟨y, h'', k1, k2, k3⟩, e3, e4, e5⟩ => by
    obtain ⟨r1, r2⟩ := e4.sub k2
    exact ⟨u, y, h'', e1, k3, (k1 _ _ e3).mono r2.stab, r1, e5.trans r2⟩) (H o ho ro' a w h1 h2)
theorem R.sliceStr {x : Operand} {lo hi : Option Operand} {s : ByteArray} {a b : Int} {ol oh : Option Int} (hx : aev E x = some (.v (.string s))) (hlo : optInt E lo = some ol) (hhi : optInt E hi = some oh) (ha : a = ol.getD 0) (hb : b = oh.getD s.size)
    (h0 : 0 ≤ a) (h1 : a ≤ b) (h2 : b ≤ s.size) (hk : K (.v (.string (s.extract a.toNat b.toNat))) h) : ROpS P c (.sliceStr x lo hi) E h K :=
  ROpS.of_pure (fun oo ho h' => AOp.value fun ρ w hops hr => by
    have hres := resOp_sound ho
    generalize hop : oo.op = op' at hres hops
    cases hres with
    | sliceStr t _ _ _ g1 =>
      have e1 := (hops x (by simp [Op.operands]) _ hx).inv_v
      refine ⟨.string (s.extract a.toNat b.toNat), ?_, .v _⟩
      have olo : lo.map ρ = none ∧ a = 0 ∨ ∃ k, lo.map ρ = some (.int k a) := by
        cases lo with
        | none => simp [optInt] at hlo; subst hlo; exact .inl ⟨rfl, by simpa using ha⟩
        | some y =>
          right
          cases ol with
          | none => unfold optInt at hlo; simp only at hlo; split at hlo <;> simp at hlo
          | some n => obtain ⟨k, hk'⟩ := optInt_some hlo (st := stab h' w) (ρ := ρ) (fun av => hops y (by simp [Op.operands]) av); exact ⟨k, by simp [hk', ha]⟩
      have ohi : hi.map ρ = none ∧ b = s.size ∨ ∃ k, hi.map ρ = some (.int k b) := by
        cases hi with
        | none => simp [optInt] at hhi; subst hhi; exact .inl ⟨rfl, by simpa using hb⟩
        | some y =>
          right
          cases oh with
          | none => unfold optInt at hhi; simp only at hhi; split at hhi <;> simp at hhi
          | some n => obtain ⟨k, hk'⟩ := optInt_some hhi (st := stab h' w) (ρ := ρ) (fun av => hops y (by simp [Op.operands]) av); exact ⟨k, by simp [hk', hb]⟩
      have hb' : (Instr.sliceBounds false s.size s.size (lo.map ρ) (hi.map ρ) none).run P w = .ok (a.toNat, b.toNat, s.size) w := by
        have hH : ∀ k code, (Instr.sliceBound (.int k b) s.size code).run P w = .ok b.toNat w := fun k code => run_sliceBound' (by omega) (by omega) w
        have hL : ∀ k code, (Instr.sliceBound (.int k a) b.toNat code).run P w = .ok a.toNat w := fun k code => run_sliceBound' (by omega) (by omega) w
        rcases ohi with ⟨q1, q2⟩ | ⟨k2, q1⟩ <;> rw [q1]
        · have hc' : b.toNat = s.size := by omega
          rw [hc'] at hL ⊢
          rcases olo with ⟨e4, e5⟩ | ⟨k1, e4⟩ <;> rw [e4]
          · subst e5; simp [Instr.sliceBounds]
          · simp [Instr.sliceBounds, hL]
        · rcases olo with ⟨e4, e5⟩ | ⟨k1, e4⟩ <;> rw [e4]
          · subst e5; simp [Instr.sliceBounds, hH]
          · simp [Instr.sliceBounds, hH, hL]
      simp only [execOp, hop, Instr.sliceAt, Sem.run_bind, run_underlying g1, Result.andThen_ok, Instr.slice, e1]
      simp [hb']) hk
end
end Go.Av
