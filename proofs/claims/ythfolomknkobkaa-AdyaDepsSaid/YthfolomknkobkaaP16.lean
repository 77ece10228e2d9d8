/-
  AdyaDeps answers true for every history
-/
import Derived.Test.YthfolomknkobkaaP15
set_option linter.unusedVariables false
namespace Go.Av
structure Grow (h₀ h : AHeap) (c : Cap) : Prop where
  le : h₀.le h
  tok : c = .full ∨ ∃ b u s, c = .tok b u s ∧ h b = some (.grow u s) ∧ h₀ b = none
theorem Grow.start (h : AHeap) : Grow h h .full := ⟨.refl h, .inl rfl⟩
theorem Grow.of_le {h₀ h : AHeap} (hle : h₀.le h) : Grow h₀ h .full := ⟨hle, .inl rfl⟩
theorem Grow.base {h₀ h : AHeap} {c : Cap} (hg : Grow h₀ h c) {b : Nat} (o : ABlk) (hb : h b = none) : Grow h₀ (h.set b o) c := by
  have h0 : h₀ b = none := by
    cases he : h₀ b with
    | none => rfl
    | some y => obtain ⟨o', h1, _⟩ := hg.le b y he; rw [hb] at h1; cases h1
  refine ⟨hg.le.set o h0, ?_⟩
  rcases hg.tok with hc | ⟨x, u, s, h1, h2, h3⟩
  · exact .inl hc
  · exact .inr ⟨x, u, s, h1, AHeap.get_fresh hb h2, h3⟩
theorem AHeap.le.none {h H : AHeap} (hle : h.le H) {b : Nat} (hb : H b = none) : h b = none := by
  cases he : h b with
  | none => rfl
  | some y => obtain ⟨o', h1, _⟩ := hle b y he; rw [hb] at h1; cases h1
section
variable {P : Program} {c : Cls} {E : AEnv} {h : AHeap} {K : AV → AHeap → Prop}
theorem Grow.own {h₀ h : AHeap} {c : Cap} (hg : Grow h₀ h c) : ∃ h₁, Own h₁ c h ∧ h₀.le h₁ ∧ (∀ x cs, h x = some (.box cs) → h₁ x = some (.box cs)) := by
  rcases hg.tok with rfl | ⟨b, u, s, rfl, h2, h3⟩
  · exact ⟨h, .full, hg.le, fun _ _ e => e⟩
  · refine ⟨h.del b, ?_, fun x o e => ?_, fun x cs e => ?_⟩
    · have := Own.tok (h₀ := h.del b) (b := b) (u := u) (s := s) (AHeap.del_same h b)
      have e : (h.del b).set b (.grow u s) = h := by
        funext x
        by_cases hx : x = b
        · subst hx; simp [h2]
        · rw [AHeap.set_other _ _ hx, AHeap.del_other _ hx]
      rwa [e] at this
    · have hx : x ≠ b := fun e' => by subst e'; rw [h3] at e; cases e
      rw [AHeap.del_other _ hx]; exact hg.le x o e
    · have hx : x ≠ b := fun e' => by subst e'; rw [h2] at e; cases e
      rw [AHeap.del_other _ hx]; exact e
theorem Grow.of_own {h₀ h₁ h : AHeap} {c : Cap} (ho : Own h₁ c h) (hle : h₀.le h₁) : Grow h₀ h c := by
  cases ho with
  | full => exact ⟨hle, .inl rfl⟩
  | tok hb => exact ⟨hle.set _ (hle.none hb), .inr ⟨_, _, _, rfl, by simp, hle.none hb⟩⟩
theorem Own.box {h₁ h : AHeap} {c : Cap} (ho : Own h₁ c h) {x : Nat} {cs : List AV} (hx : h₁ x = some (.box cs)) : h x = some (.box cs) := by
  cases ho with
  | full => exact hx
  | tok hb => exact AHeap.get_fresh hb hx
theorem S.appendG {h₀ : AHeap} {sz bytes : Nat} {zero : List Value} {x y : Operand} {d s : AV} {xs ys : List (List AV)} {c0 : Cap} (hc : c = .act) (hg : Grow h₀ h c0) (hx : aev E x = some d) (hd : Dst sz d xs c0) (hy : aev E y = some s) (hs : Src sz s ys)
    (hone : ∀ e ∈ ys, ∀ a ∈ e, a.one = true) (hlen : xs.length + ys.length ≤ 4611686018427387904) (hroom : (xs.length + ys.length) * bytes ≤ 140737488355328)
    (hk : ∀ c' h', Grow h₀ h' c' → (∀ x cs, h x = some (.box cs) → h' x = some (.box cs)) → K (.sl sz (xs ++ ys) c') h') : ROpS P c (.append sz bytes zero x y) E h K := by
  obtain ⟨h₁, ho, hle, hbox⟩ := hg.own
  exact R.append hc hx hd ho hy hs hone hlen hroom fun c' h' ho' => hk c' h' (.of_own ho' hle) fun x cs hx => ho'.box (hbox x cs hx)
theorem ROpS.sub {r : ROp} {X Y : AV} (H : ∀ h', ROpS P .act r E h' (fun x h'' => x = X ∧ h'' = h')) (hle : ALe X Y) (hk : K Y h) : ROpS P c r E h K :=
  ROpS.of_pure (fun o ho h' ro a w h1 h2 => Oper.wpIn_mono (fun a' w' ⟨u, x, h'', e1, ⟨e2, e3⟩, e4, e5, e6⟩ => by subst e2; exact ⟨u, Y, h'', e1, ⟨rfl, e3⟩, hle _ _ e4, e5, e6⟩) (H h' o ho ro a w h1 h2)) hk
theorem optInt_int {y : Operand} {k : IntKind} {n : Int} (hy : aev E y = some (.v (.int k n))) : optInt E (some y) = some (some n) := by simp [optInt, hy]
theorem S.sliceHM {sz : Nat} {x hi mx : Operand} {es : List (List AV)} {cc : Cap} {k' k'' : IntKind} {b : Int} (hx : aev E x = some (.sl sz es cc)) (hhi : aev E hi = some (.v (.int k' b))) (hmx : aev E mx = some (.v (.int k'' b)))
    (h1 : 0 ≤ b) (h2 : b ≤ es.length) (hsz : 0 < sz) (hk : K (.sl sz (es.take b.toNat) .full) h) : ROpS P c (.sliceSl sz x none (some hi) (some mx)) E h K :=
  R.sliceSl hx rfl (optInt_int hhi) (optInt_int hmx) rfl rfl (Int.le_refl 0) h1 h2 (.inr ⟨rfl, rfl⟩) hsz (by
    have : capCut cc (0 : Int).toNat b.toNat es.length (some b) = .full := by simp only [capCut]; rw [if_pos (by omega)]
    show K (.sl sz ((es.drop (0 : Int).toNat).take (b.toNat - (0 : Int).toNat)) (capCut cc (0 : Int).toNat b.toNat es.length (some b))) h
    rw [this]
    simpa using hk)
theorem S.sliceL {sz : Nat} {x lo : Operand} {es : List (List AV)} {cc : Cap} {k : IntKind} {a : Int} (hx : aev E x = some (.sl sz es cc)) (hlo : aev E lo = some (.v (.int k a)))
    (h0 : 0 ≤ a) (h1 : a ≤ es.length) (hsz : 0 < sz) (hk : K (.sl sz (es.drop a.toNat) .ro) h) : ROpS P c (.sliceSl sz x (some lo) none none) E h K :=
  ROpS.sub (X := .sl sz ((es.drop a.toNat).take (((es.length : Int)).toNat - a.toNat)) (capCut cc a.toNat ((es.length : Int)).toNat es.length none)) (fun h' => R.sliceSl hx (optInt_int hlo) rfl rfl rfl rfl h0 h1 (Int.le_refl _) (.inl rfl) hsz ⟨rfl, rfl⟩)
    (by
      have : (es.drop a.toNat).take (((es.length : Int)).toNat - a.toNat) = es.drop a.toNat := List.take_of_length_le (by simp)
      rw [this]
      exact .toRo _ _ _) hk
theorem S.sliceH {sz : Nat} {x hi : Operand} {es : List (List AV)} {cc : Cap} {k : IntKind} {b : Int} (hx : aev E x = some (.sl sz es cc)) (hhi : aev E hi = some (.v (.int k b)))
    (h0 : 0 ≤ b) (h1 : b ≤ es.length) (hsz : 0 < sz) (hk : K (.sl sz (es.take b.toNat) .ro) h) : ROpS P c (.sliceSl sz x none (some hi) none) E h K :=
  ROpS.sub (X := .sl sz ((es.drop (0 : Int).toNat).take (b.toNat - (0 : Int).toNat)) (capCut cc (0 : Int).toNat b.toNat es.length none)) (fun h' => R.sliceSl hx rfl (optInt_int hhi) rfl rfl rfl (Int.le_refl 0) h0 h1 (.inl rfl) hsz ⟨rfl, rfl⟩)
    (by simpa using ALe.toRo _ _ _) hk
end
end Go.Av
