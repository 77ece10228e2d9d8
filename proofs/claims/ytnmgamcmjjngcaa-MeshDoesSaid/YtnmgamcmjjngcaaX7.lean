import Derived.Test.YtnmgamcmjjngcaaX6
import Derived.Test.YtnmgamcmjjngcaaV5
set_option linter.unusedVariables false
set_option linter.unusedSimpArgs false
namespace Go.Proofs.Ytnmgamcmjjngcaa
open Go.Av

/-! ### Two meshes that do the same -/

structure Alike (M : Mesh) (Z : RMesh) : Prop where
  fates : M.fates = Z.fates
  sent : M.sent = Z.sent
  now : M.now = Z.now
  wait : M.wait = Z.wait
  cut : ∀ a b, isCut M.cut (min a b, max a b) = rCut Z.cut a b

theorem pair_iff (x y a b : UInt64) : (min x y, max x y) = (min a b, max a b) ↔ (x = a ∧ y = b) ∨ (x = b ∧ y = a) := by
  have h1 := umin_toNat x y
  have h2 := umax_toNat x y
  have h3 := umin_toNat a b
  have h4 := umax_toNat a b
  constructor
  · intro e
    have e1 : min x y = min a b := congrArg Prod.fst e
    have e2 : max x y = max a b := congrArg Prod.snd e
    rw [e1, h3] at h1
    rw [e2, h4] at h2
    have : (x.toNat = a.toNat ∧ y.toNat = b.toNat) ∨ (x.toNat = b.toNat ∧ y.toNat = a.toNat) := by omega
    exact this.imp (fun ⟨g1, g2⟩ => ⟨UInt64.toNat_inj.1 g1, UInt64.toNat_inj.1 g2⟩) (fun ⟨g1, g2⟩ => ⟨UInt64.toNat_inj.1 g1, UInt64.toNat_inj.1 g2⟩)
  · rintro (⟨rfl, rfl⟩ | ⟨rfl, rfl⟩)
    · rfl
    · have e1 : min x y = min y x := UInt64.toNat_inj.1 (by rw [h1, h3]; omega)
      have e2 : max x y = max y x := UInt64.toNat_inj.1 (by rw [h2, h4]; omega)
      rw [e1, e2]

theorem rCut_iff (l : List (UInt64 × UInt64)) (x y : UInt64) : rCut l x y = true ↔ (x, y) ∈ l ∨ (y, x) ∈ l := by
  simp only [rCut, List.any_eq_true, Bool.or_eq_true, beq_iff_eq]
  constructor
  · rintro ⟨p, hp, rfl | rfl⟩
    · exact .inl hp
    · exact .inr hp
  · rintro (h | h)
    · exact ⟨_, h, .inl rfl⟩
    · exact ⟨_, h, .inr rfl⟩

theorem keepPair_iff (a b : UInt64) (p : UInt64 × UInt64) : keepPair a b p = true ↔ ¬ (p = (a, b) ∨ p = (b, a)) := by
  simp only [keepPair, Bool.and_eq_true, Bool.not_eq_true', beq_eq_false_iff_ne, ne_eq, not_or]

theorem rCut_cutOff (Z : RMesh) (a b : UInt64) (c : Bool) (x y : UInt64) : rCut (Z.cutOff a b c).cut x y = if (x = a ∧ y = b) ∨ (x = b ∧ y = a) then c else rCut Z.cut x y := by
  have e : rCut (Z.cutOff a b c).cut x y = true ↔ ((x, y) ∈ (Z.cutOff a b c).cut ∨ (y, x) ∈ (Z.cutOff a b c).cut) := rCut_iff _ x y
  have e0 := rCut_iff Z.cut x y
  have hm : ∀ p : UInt64 × UInt64, p ∈ (Z.cutOff a b c).cut ↔ (p ∈ Z.cut ∧ ¬ (p = (a, b) ∨ p = (b, a))) ∨ (c = true ∧ p = (a, b)) := fun p => by
    show p ∈ Z.cut.filter (keepPair a b) ++ (if c then [(a, b)] else []) ↔ _
    rw [List.mem_append, List.mem_filter, keepPair_iff]
    cases c <;> simp
  rw [hm, hm] at e
  by_cases hs : (x = a ∧ y = b) ∨ (x = b ∧ y = a)
  · rw [if_pos hs]
    cases c with
    | true =>
      rw [e]
      rcases hs with ⟨rfl, rfl⟩ | ⟨rfl, rfl⟩
      · exact .inl (.inr ⟨rfl, rfl⟩)
      · exact .inr (.inr ⟨rfl, rfl⟩)
    | false =>
      cases hc : rCut (Z.cutOff a b false).cut x y with
      | false => rfl
      | true =>
        exfalso
        have := e.1 hc
        rcases hs with ⟨rfl, rfl⟩ | ⟨rfl, rfl⟩ <;> simp at this
  · rw [if_neg hs]
    have h1 : ∀ z w : UInt64, ((x = z ∧ y = w) ∨ (y = z ∧ x = w)) → True := fun _ _ _ => trivial
    have n1 : ¬ ((x, y) = (a, b) ∨ (x, y) = (b, a)) := fun g => hs (by rcases g with g | g <;> cases g; exact .inl ⟨rfl, rfl⟩; exact .inr ⟨rfl, rfl⟩)
    have n2 : ¬ ((y, x) = (a, b) ∨ (y, x) = (b, a)) := fun g => hs (by rcases g with g | g <;> cases g; exact .inr ⟨rfl, rfl⟩; exact .inl ⟨rfl, rfl⟩)
    have n3 : ¬ (x, y) = (a, b) := fun g => n1 (.inl g)
    have n4 : ¬ (y, x) = (a, b) := fun g => n2 (.inl g)
    have : rCut (Z.cutOff a b c).cut x y = true ↔ rCut Z.cut x y = true := by
      rw [e, e0]
      constructor
      · rintro ((⟨g, _⟩ | ⟨_, g⟩) | (⟨g, _⟩ | ⟨_, g⟩))
        · exact .inl g
        · exact absurd g n3
        · exact .inr g
        · exact absurd g n4
      · rintro (g | g)
        · exact .inl (.inl ⟨g, n1⟩)
        · exact .inr (.inl ⟨g, n2⟩)
    cases h1 : rCut (Z.cutOff a b c).cut x y <;> cases h2 : rCut Z.cut x y <;> simp_all

theorem Alike.cutOff {M : Mesh} {Z : RMesh} (A : Alike M Z) (a b : UInt64) (c : Bool) : Alike { M with cut := setCut M.cut (min a b, max a b) c } (Z.cutOff a b c) := by
  refine ⟨A.fates, A.sent, A.now, A.wait, fun x y => ?_⟩
  show isCut (setCut M.cut (min a b, max a b) c) (min x y, max x y) = _
  rw [isCut_set, rCut_cutOff, A.cut]
  by_cases hs : (x = a ∧ y = b) ∨ (x = b ∧ y = a)
  · rw [if_pos hs, if_pos ((pair_iff x y a b).2 hs).symm]
  · rw [if_neg hs, if_neg fun e => hs ((pair_iff x y a b).1 e.symm)]

theorem Alike.tick {M : Mesh} {Z : RMesh} (A : Alike M Z) : Alike { M with now := M.now + 1 } { Z with now := Z.now + 1 } := ⟨A.fates, A.sent, by show M.now + 1 = _; rw [A.now], A.wait, A.cut⟩

theorem Alike.send {M : Mesh} {Z : RMesh} (A : Alike M Z) (x : Msg) : Alike (M.send [x]) (Z.send1 x) := by
  show Alike (M.send1 x) (Z.send1 x)
  have hc : isCut M.cut x.key = rCut Z.cut x.src x.dst := A.cut x.src x.dst
  unfold Mesh.send1 RMesh.send1 RMesh.kk
  rw [hc]
  cases rCut Z.cut x.src x.dst with
  | true =>
    rw [if_pos rfl]
    exact ⟨A.fates, by show M.sent + 1 = _; rw [A.sent], A.now, by show M.wait = _; rw [A.wait]; simp, A.cut⟩
  | false =>
    rw [if_neg (by decide)]
    exact ⟨A.fates, by show M.sent + 1 = _; rw [A.sent], A.now, by show M.wait ++ _ = _; rw [A.wait, A.fates, A.sent, A.now]; simp, A.cut⟩

theorem Alike.at {M : Mesh} {Z : RMesh} (A : Alike M Z) : M.at = Z.asM.at := by show pickAt M.now M.wait M.wait.length = pickAt Z.now Z.wait Z.wait.length; rw [A.now, A.wait]
theorem Alike.next {M : Mesh} {Z : RMesh} (A : Alike M Z) : M.got = Z.asM.got ∧ M.is = Z.asM.is ∧ Alike M.rest Z.rest := by
  have ha := A.at
  refine ⟨?_, ?_, ?_⟩
  · unfold Mesh.got; rw [ha, A.wait]; rfl
  · unfold Mesh.is; rw [ha]
  · have hw : M.rest.wait = Z.rest.wait := by
      show M.rest.wait = Z.asM.rest.wait
      unfold Mesh.rest
      rw [ha]
      split
      · exact A.wait
      · show M.wait.eraseIdx _ = Z.wait.eraseIdx _; rw [A.wait]
    have h0 : M.rest.fates = M.fates ∧ M.rest.sent = M.sent ∧ M.rest.now = M.now ∧ M.rest.cut = M.cut := by unfold Mesh.rest; split <;> exact ⟨rfl, rfl, rfl, rfl⟩
    obtain ⟨h1, h2, h3, h4⟩ := h0
    exact ⟨h1.trans A.fates, h2.trans A.sent, h3.trans A.now, hw, fun a b => by rw [h4]; exact A.cut a b⟩

/-! ### Both in memory -/

def Both (M : Mesh) (p bm : Nat) (Z : RMesh) (q : Nat) (h : AHeap) : Prop := ∃ hb c, MAt hb M p bm h ∧ RAt Z q c hb

theorem Both.rat {M : Mesh} {p bm : Nat} {Z : RMesh} {q : Nat} {h : AHeap} (B : Both M p bm Z q h) : ∃ hb c, MAt hb M p bm h ∧ RAt Z q c hb ∧ RAt Z q c h := by
  obtain ⟨hb, c, H, R0⟩ := B
  exact ⟨hb, c, H, R0, R0.ext H.fr⟩

/-- The reference's mesh turns. -/
theorem Both.turn {M : Mesh} {p bm : Nat} {Z Z' : RMesh} {q : Nat} {h hb h' : AHeap} {c c' : Cap} (H : MAt hb M p bm h) (R0 : RAt Z q c hb) (R1 : RAt Z' q c' h') (hs : Stp q c h c' h') : Both M p bm Z' q h' := by
  classical
  have keep : ∀ {x o}, hb x = none → h x = some o → h' x = some o := fun {x o} hx e => hs.agree x o e (fun e' => by subst e'; rw [R0.hq] at hx; cases hx) (fun b u s hc e' => by
    subst e'
    rcases R0.held with g | ⟨b', u', s', g1, g2⟩
    · rw [g] at hc; cases hc
    · rw [g1] at hc; cases hc; rw [g2] at hx; cases hx)
  obtain ⟨v, hp, hw⟩ := H.hp
  have hp' := keep H.p0 hp
  have hm' := keep H.m0 H.hm
  have nq : ∀ {x}, hb x = none → q ≠ x := fun hx e => by subst e; rw [R0.hq] at hx; cases hx
  have main : ∀ (r : Nat), hb r = none → (∃ cs, h' r = some (.box cs)) → (M.wait = [] ∧ v = nilSl ∨ ∃ cap sp, r ≠ p ∧ v = slAt r 0 M.wait.length cap ∧ h r = some (.box ((M.wait.map Fly.cells).flatten ++ sp)) ∧ sp.length = (cap - M.wait.length) * 15 ∧ M.wait.length ≤ cap ∧ cap ≤ maxLen) → Both M p bm Z' q h' := by
    intro r hr hrb hwr
    refine ⟨fun x => if x = p ∨ x = bm ∨ x = r then none else h' x, c', ⟨fun x o e => ?_, if_pos (.inl rfl), if_pos (.inr (.inl rfl)), hm', H.nd, v, hp', ?_⟩, ?_, ?_⟩
    · by_cases hx : x = p ∨ x = bm ∨ x = r
      · simp only [if_pos hx] at e; cases e
      · simp only [if_neg hx] at e; exact e
    · rcases hwr with g | ⟨cap, sp, g1, g2, g3, g4⟩
      · exact .inl g
      · exact .inr ⟨r, cap, sp, if_pos (.inr (.inr rfl)), g1, g2, keep hr g3, g4⟩
    · rw [if_neg]
      · exact R1.hq
      · rintro (e | e | e)
        · exact nq H.p0 e
        · exact nq H.m0 e
        · exact nq hr e
    · rcases R1.held with g | ⟨b, u, s, g1, g2⟩
      · exact .inl g
      · refine .inr ⟨b, u, s, g1, ?_⟩
        show (if b = p ∨ b = bm ∨ b = r then none else h' b) = _
        rw [if_neg]
        · exact g2
        · rintro (e | e | e)
          · subst e; rw [hp'] at g2; cases g2
          · subst e; rw [hm'] at g2; cases g2
          · subst e; obtain ⟨cs, hcs⟩ := hrb; rw [hcs] at g2; cases g2
  rcases hw with g | ⟨b, cap, sp, g1, g2, g3, g4, g5⟩
  · exact main p H.p0 ⟨_, hp'⟩ (.inl g)
  · exact main b g1 ⟨_, keep g1 g4⟩ (.inr ⟨cap, sp, g2, g3, g4, g5⟩)

/-- A new block. -/
theorem Both.alloc {M : Mesh} {p bm : Nat} {Z : RMesh} {q : Nat} {h : AHeap} (B : Both M p bm Z q h) {b : Nat} (o : ABlk) (hb : h b = none) : Both M p bm Z q (h.set b o) := by
  obtain ⟨hb0, c, H, R0⟩ := B
  exact ⟨hb0, c, H.alloc o hb, R0⟩

end Go.Proofs.Ytnmgamcmjjngcaa
