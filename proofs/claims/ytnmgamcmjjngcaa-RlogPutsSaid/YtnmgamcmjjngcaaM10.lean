import Derived.Test.YtnmgamcmjjngcaaM9
set_option linter.unusedVariables false
set_option linter.unusedSimpArgs false
namespace Go.Proofs.Ytnmgamcmjjngcaa
open Go.Av
open Go.Sort (swp PermIn SortedIn Below SWO)

/-! ### A row of numbers that grows, owned -/

/-- A slice of numbers over a row whose blocks are B; or nil. -/
def RowG (l : List SE) (d : AV) (B : Nat → Prop) (g : AHeap) : Prop :=
  (l = [] ∧ d = .v (.slice none 0 0) ∧ ∀ x, ¬ B x) ∨ ∃ b cap sp, d = slAt b 0 l.length cap ∧ g b = some (.box (l.map enc ++ sp)) ∧ l.length + sp.length = cap ∧ cap ≤ maxLen ∧ l ≠ [] ∧ ∀ x, B x ↔ x = b

theorem rowG_own {l : List SE} {d : AV} {B : Nat → Prop} {g : AHeap} (h : RowG l d B g) : ∀ x, B x → g x ≠ none := fun x hx => by
  rcases h with ⟨_, _, h⟩ | ⟨b, cap, sp, _, h2, _, _, _, h3⟩
  · exact absurd hx (h x)
  · rw [(h3 x).1 hx, h2]; simp
theorem rowG_loc {l : List SE} {d : AV} {B : Nat → Prop} {g g' : AHeap} (h : RowG l d B g) (hl : ∀ x, B x → g' x = g x) : RowG l d B g' := by
  rcases h with h | ⟨b, cap, sp, h1, h2, h3, h4, h5, h6⟩
  · exact .inl h
  · exact .inr ⟨b, cap, sp, h1, (hl b ((h6 b).2 rfl)).trans h2, h3, h4, h5, h6⟩
theorem rowG_box {l : List SE} {d : AV} {B : Nat → Prop} {g : AHeap} (h : RowG l d B g) {x : Nat} {r : ALoop} (hx : g x = some (.loop r)) : ¬ B x := fun hb => by
  rcases h with ⟨_, _, h⟩ | ⟨b, cap, sp, _, h2, _, _, _, h3⟩
  · exact h x hb
  · rw [(h3 x).1 hb, h2] at hx; cases hx

theorem rowG_cells {l : List SE} {d : AV} {B : Nat → Prop} {g : AHeap} (h : RowG l d B g) : d.cells? = some [d] := by
  rcases h with ⟨_, rfl, _⟩ | ⟨b, cap, sp, rfl, _⟩ <;> rfl

theorem one_num (v : SE) : ∀ e ∈ [[enc v]], ∀ a ∈ e, a.one = true := by
  intro e he a ha
  simp only [List.mem_singleton] at he
  subst he
  simp only [List.mem_singleton] at ha
  subst ha; rfl

theorem over_app1 (A S : List AV) (X : AV) (n : Nat) (hn : n = A.length) : over (A ++ S) n [X] = A ++ [X] ++ S.drop 1 := by
  subst hn
  unfold over
  rw [List.take_left, List.drop_append, List.drop_of_length_le (by simp), List.nil_append]
  simp

theorem S.pushU {P : Program} {c : Cls} {E : AEnv} {g : AHeap} {K : AV → AHeap → Prop} {zero : List Value} {x y : Operand} {d y' : AV} {l : List SE} {v : SE} {B : Nat → Prop} (hc : c = .act) (hr : RowG l d B g) (hx : aev E x = some d) (hy : aev E y = some y') (hs : Go.Av.Src 1 y' [[enc v]]) (hl : l.length ≤ 1000000)
    (hk : ∀ d' B' g', RowG (l ++ [v]) d' B' g' → (∀ x o, g x = some o → ¬ B x → g' x = some o) → (∀ x, B' x → B x ∨ g x = none) → K d' g') : ROpS P c (.append 1 8 zero x y) E g K := by
  rcases hr with ⟨rfl, rfl, h1⟩ | ⟨b, cap, sp, rfl, h1, h2, h3, h4, h5⟩
  · refine R.appendBox hc hx .nil hy hs (one_num v) (by simp) (by simp) (by simp) (fun p cap hp hc1 hc2 => hk _ (fun x => x = p) _ (.inr ⟨p, cap, List.replicate ((cap - 1) * 1) .any, rfl, ?_, ?_, hc2, by simp, fun x => Iff.rfl⟩) ?_ ?_)
    · exact AHeap.set_same _ _ _
    · simp at hc1 ⊢; omega
    · intro x o e _; exact AHeap.get_fresh hp e
    · rintro x rfl; exact .inr hp
  · refine R.appendOwn hc hx h1 (by simp; omega) (by omega) hy hs (one_num v) (by simp) (by simp; omega) (by simp; omega) (fun hroom => ?_) (fun p' cap' hp' hc1 hc2 => ?_)
    · refine hk _ (fun x => x = b) _ (.inr ⟨b, cap, sp.drop 1, ?_, ?_, ?_, h3, by simp, fun x => Iff.rfl⟩) ?_ ?_
      · simp
      · rw [AHeap.set_same]
        have := over_app1 (l.map enc) sp (enc v) (0 + l.length * 1) (by simp)
        simp only [List.flatten_cons, List.flatten_nil, List.append_nil]
        rw [this]; simp
      · simp at hroom ⊢; omega
      · intro x o e hn
        rw [AHeap.set_other _ _ (fun e' => hn ((h5 x).2 e'))]; exact e
      · intro x hx; exact .inl ((h5 x).2 hx)
    · refine hk _ (fun x => x = p') _ (.inr ⟨p', cap', List.replicate ((cap' - (l.length + 1)) * 1) .any, ?_, ?_, ?_, hc2, by simp, fun x => Iff.rfl⟩) ?_ ?_
      · simp
      · rw [AHeap.set_same]; simp
      · simp at hc1 ⊢; omega
      · intro x o e hn; exact AHeap.get_fresh hp' e
      · rintro x rfl; exact .inr hp'

/-! ### AppendSeq, Collect -/
def r102b0 : RCode :=
  (.block 1
   (.region [
     ⟨(some 8), none, .act, .load false 1 (.tmp 2)⟩,
     ⟨(some 9), none, .act, .mv (.tmp 5)⟩,
     ⟨(some 10), none, .act, .buildSl 1 [(.int .u64 0)] 1 [(0, (.tmp 9))]⟩,
     ⟨(some 11), none, .act, .append 1 8 [(.int .u64 0)] (.tmp 8) (.tmp 10)⟩,
     ⟨none, none, .act, .store 1 (.tmp 2) (.tmp 11)⟩]))
/-- slices.AppendSeq[[]uint64,uint64] -/
def r102 : RCode :=
  (.seq (.region [
    ⟨(some 2), none, .act, .box (.tmp 0)⟩,
    ⟨(some 4), none, .act, .mv (.const (.slice none 0 0))⟩])
  (.seq (.seq (.region [
    ⟨(some 6), none, .act, .mv (.tmp 1)⟩])
  (.block 0
   (.rangeFunc (.tmp 6) #[7] (.region [
    ⟨(some 5), none, .act, .mv (.tmp 7)⟩]) r102b0)))
  (.seq (.region [
    ⟨(some 12), none, .act, .load false 1 (.tmp 2)⟩,
    ⟨(some 4), none, .act, .mv (.tmp 12)⟩])
  .ret)))
theorem res102 : ∃ c, Try.f102.body = some c ∧ resCode Try.prog 13 c = some r102 := ⟨_, rfl, by kernel_rfl⟩
theorem rr102 : resRes Try.prog Try.f102.results.toList = some [.tmp 4] := by kernel_rfl

def asgSeq : RCode := .region [⟨(some 5), none, .act, .mv (.tmp 7)⟩]

/-- What AppendSeq's loop holds. -/
def AsI (L : List (Nat × AV)) (cx cy : Code) (lst : List UInt64) (l p : Nat) (k : Nat) (C : Nat → Prop) (h : AHeap) : Prop :=
  k ≤ lst.length ∧ h l = some (.loop (loop0 L 13 #[7] cx cy)) ∧ ∃ d B, h p = some (.box [d]) ∧ RowG (lst.take k) d B h ∧ ¬ B l ∧ ¬ B p ∧ ∀ x, C x ↔ (x = l ∨ x = p ∨ B x)

theorem asI_client (L : List (Nat × AV)) (cx cy : Code) (lst : List UInt64) (l p : Nat) (k : Nat) : Client (AsI L cx cy lst l p k) where
  own := by
    rintro C h ⟨_, h1, d, B, h2, h3, _, _, h4⟩ x hx
    rcases (h4 x).1 hx with rfl | rfl | hb
    · rw [h1]; simp
    · rw [h2]; simp
    · exact rowG_own h3 x hb
  loc := by
    rintro C h h' ⟨h0, h1, d, B, h2, h3, h5, h6, h4⟩ hl
    refine ⟨h0, ?_, d, B, ?_, rowG_loc h3 fun x hx => hl x ((h4 x).2 (.inr (.inr hx))), h5, h6, h4⟩
    · rw [hl l ((h4 l).2 (.inl rfl))]; exact h1
    · rw [hl p ((h4 p).2 (.inr (.inl rfl)))]; exact h2

theorem as_round (clo : AV) (cx cy : Code) (lst : List UInt64) (hlen : lst.length ≤ 1000000) (l p : Nat) (hlp : l ≠ p) (hx : Resd Try.prog 13 cx asgSeq) (hy : Resd Try.prog 13 cy r102b0)
    (k : Nat) (v : UInt64) (hv : lst[k]? = some v) (C : Nat → Prop) (h : AHeap) (hI : AsI [(6, clo), (2, ptr p)] cx cy lst l p k C h) (Z : (Nat → Prop) → AHeap → Prop) :
    YStep Try.prog l [enc v] C h (AsI [(6, clo), (2, ptr p)] cx cy lst l p (k + 1)) Z := by
  obtain ⟨hk, h1, d, B, h2, h3, h5, h6, h4⟩ := hI
  have hkl : k < lst.length := (List.getElem?_eq_some_iff.1 hv).1
  have htl : (lst.take k).length = k := by simp; omega
  have hpl := Ne.symm hlp
  refine AYield.mk h1 hx hy rfl rfl rfl ?_
  unfold asgSeq
  repeat' (first | (refine S.begin (by (repeat' (first | assumption | exact AHeap.set_same _ _ _ | refine AHeap.get_fresh ‹_› ?_ | refine AHeap.so ?_ ?_ | exact AHeap.n1 ‹_› | exact AHeap.n2 ‹_› | exact AHeap.ne_of ‹_› ‹_› | exact AHeap.n4 ‹_› ‹_› | exact AHeap.n5 ‹_› | exact AHeap.n6 ‹_› | exact AHeap.n7 ‹_› ‹_› | exact AHeap.n8 ‹_› ‹_›)); first | done | fail) rfl ?_) | refine S.nilK ?_ | (refine S.op rfl ?_; first | refine R.mv rfl ?_ | refine R.loadR rfl rfl ?_ | refine R.load (by decide) rfl (by (repeat' (first | assumption | exact AHeap.set_same _ _ _ | refine AHeap.get_fresh ‹_› ?_ | refine AHeap.so ?_ ?_ | exact AHeap.n1 ‹_› | exact AHeap.n2 ‹_› | exact AHeap.ne_of ‹_› ‹_› | exact AHeap.n4 ‹_› ‹_› | exact AHeap.n5 ‹_› | exact AHeap.n6 ‹_› | exact AHeap.n7 ‹_› ‹_› | exact AHeap.n8 ‹_› ‹_›)); first | done | fail) rfl ?_ | refine R.box rfl rfl rfl (fun b hb => ?_) | refine R.buildSl rfl rfl rfl (by decide) ?_) | (refine S.op0 rfl ?_; first | refine S.storeS rfl rfl rfl (by rfl) rfl (by first | decide | exact Nat.le_refl _ | exact Nat.le_of_ble_eq_true rfl) ?_ | refine S.store rfl rfl (by (repeat' (first | assumption | exact AHeap.set_same _ _ _ | refine AHeap.get_fresh ‹_› ?_ | refine AHeap.so ?_ ?_ | exact AHeap.n1 ‹_› | exact AHeap.n2 ‹_› | exact AHeap.ne_of ‹_› ‹_› | exact AHeap.n4 ‹_› ‹_› | exact AHeap.n5 ‹_› | exact AHeap.n6 ‹_› | exact AHeap.n7 ‹_› ‹_› | exact AHeap.n8 ‹_› ‹_›)); first | done | fail) rfl rfl rfl (by rfl) rfl ?_) | refine S.skip rfl ?_ | refine S.skip0 rfl ?_ | refine S.seq ?_ | refine S.region ?_ | refine S.condT rfl ?_ | refine S.condF rfl ?_ | refine RRun.skip ?_ | refine RRun.block ?_ | refine RRun.inBlock ?_ | refine RRun.exit rfl ?_)
  have h3' : RowG (lst.take k) d B (h.set l (.loop { loop0 [(6, clo), (2, ptr p)] 13 #[7] cx cy with state := .busy })) := rowG_loc h3 fun x hx => AHeap.set_other _ _ (fun e => h5 (e ▸ hx))
  refine S.op rfl (S.pushU (v := v) rfl h3' rfl rfl (.sl _ _) (by omega) (fun d' B' g' g1 g2 g3 => ?_))
  have hl' := g2 l _ (AHeap.set_same _ _ _) h5
  have hp' := g2 p _ ((AHeap.set_other _ _ hpl).trans h2) h6
  have hBl : ¬ B' l := rowG_box g1 hl'
  have hBp : ¬ B' p := fun hb => by
    rcases g3 p hb with e | e
    · exact h6 e
    · rw [AHeap.set_other _ _ hpl, h2] at e; cases e
  repeat' (first | (refine S.op0 rfl (R.store rfl rfl hp' rfl (rowG_cells g1) rfl (Nat.le_refl _) ?_)) | refine S.nilK ?_ | (refine S.op rfl ?_; first | refine R.mv rfl ?_ | refine R.loadR rfl rfl ?_ | refine R.load (by decide) rfl (by (repeat' (first | assumption | exact AHeap.set_same _ _ _ | refine AHeap.get_fresh ‹_› ?_ | refine AHeap.so ?_ ?_ | exact AHeap.n1 ‹_› | exact AHeap.n2 ‹_› | exact AHeap.ne_of ‹_› ‹_› | exact AHeap.n4 ‹_› ‹_› | exact AHeap.n5 ‹_› | exact AHeap.n6 ‹_› | exact AHeap.n7 ‹_› ‹_› | exact AHeap.n8 ‹_› ‹_›)); first | done | fail) rfl ?_ | refine R.box rfl rfl rfl (fun b hb => ?_) | refine R.buildSl rfl rfl rfl (by decide) ?_) | (refine S.op0 rfl ?_; first | refine S.storeS rfl rfl rfl (by rfl) rfl (by first | decide | exact Nat.le_refl _ | exact Nat.le_of_ble_eq_true rfl) ?_ | refine S.store rfl rfl (by (repeat' (first | assumption | exact AHeap.set_same _ _ _ | refine AHeap.get_fresh ‹_› ?_ | refine AHeap.so ?_ ?_ | exact AHeap.n1 ‹_› | exact AHeap.n2 ‹_› | exact AHeap.ne_of ‹_› ‹_› | exact AHeap.n4 ‹_› ‹_› | exact AHeap.n5 ‹_› | exact AHeap.n6 ‹_› | exact AHeap.n7 ‹_› ‹_› | exact AHeap.n8 ‹_› ‹_›)); first | done | fail) rfl rfl rfl (by rfl) rfl ?_) | refine S.skip rfl ?_ | refine S.skip0 rfl ?_ | refine S.seq ?_ | refine S.region ?_ | refine S.condT rfl ?_ | refine S.condF rfl ?_ | refine RRun.skip ?_ | refine RRun.block ?_ | refine RRun.inBlock ?_ | refine RRun.exit rfl ?_)
  refine RRunG.done ?_
  have htake : lst.take (k + 1) = lst.take k ++ [v] := by rw [List.take_add_one, hv]; rfl
  refine ⟨_, (AHeap.set_other _ _ hlp).trans hl', fun x => (x = l ∨ x = p ∨ B' x), ?_, ?_, ?_⟩
  · rintro x (e | e | e)
    · exact .inl ((h4 x).2 (.inl e))
    · exact .inl ((h4 x).2 (.inr (.inl e)))
    · rcases g3 x e with q | q
      · exact .inl ((h4 x).2 (.inr (.inr q)))
      · exact .inr (AHeap.z1 q)
  · intro x o e hn
    have hn' : ¬ (x = l ∨ x = p ∨ B x) := fun q => hn ((h4 x).2 q)
    have x1 : x ≠ l := fun e => hn' (.inl e)
    have x2 : x ≠ p := fun e => hn' (.inr (.inl e))
    rw [AHeap.set_other _ _ x1, AHeap.set_other _ _ x2]
    exact g2 x o ((AHeap.set_other _ _ x1).trans e) (fun q => hn' (.inr (.inr q)))
  · show AsI _ _ _ _ _ _ _ _ _
    refine ⟨hkl, AHeap.set_same _ _ _, d', B', ?_, ?_, hBl, hBp, fun x => Iff.rfl⟩
    · refine (AHeap.set_other _ _ hpl).trans ((AHeap.set_same _ _ _).trans rfl)
    · rw [htake]
      exact rowG_loc g1 fun x hx => by
        have el : x ≠ l := by rintro rfl; exact hBl hx
        have ep : x ≠ p := by rintro rfl; exact hBp hx
        rw [AHeap.set_other _ _ el, AHeap.set_other _ _ ep]

/-- What AppendSeq to nil gives: a row of its own. -/
theorem appendSeq_spec (lst : List UInt64) (hlen : lst.length ≤ 1000000) (q : Nat) (h : AHeap) (hq : h q = some (.box [u64s lst])) :
    ACalls Try.prog 102 [.v (.slice none 0 0), .v (.func (.func 98) #[] #[.pointer (some ⟨q, 0, none⟩)])] h (fun x h' => ∃ B, RowG lst x B h' ∧ (∀ y o, h y = some o → h' y = some o) ∧ (∀ y, B y → h y = none)) := by
  obtain ⟨c, hc1, hc2⟩ := res102
  refine ACalls.enter Try.func102 hc1 Try.ntmps102 hc2 (Nat.le_of_ble_eq_true rfl) rfl ?_
  repeat' (first | refine S.nilK ?_ | (refine S.op rfl ?_; first | refine R.mv rfl ?_ | refine R.loadR rfl rfl ?_ | refine R.load (by decide) rfl (by (repeat' (first | assumption | exact AHeap.set_same _ _ _ | refine AHeap.get_fresh ‹_› ?_ | refine AHeap.so ?_ ?_ | exact AHeap.n1 ‹_› | exact AHeap.n2 ‹_› | exact AHeap.ne_of ‹_› ‹_› | exact AHeap.n4 ‹_› ‹_› | exact AHeap.n5 ‹_› | exact AHeap.n6 ‹_› | exact AHeap.n7 ‹_› ‹_› | exact AHeap.n8 ‹_› ‹_›)); first | done | fail) rfl ?_ | refine R.box rfl rfl rfl (fun b hb => ?_) | refine R.buildSl rfl rfl rfl (by decide) ?_) | (refine S.op0 rfl ?_; first | refine S.storeS rfl rfl rfl (by rfl) rfl (by first | decide | exact Nat.le_refl _ | exact Nat.le_of_ble_eq_true rfl) ?_ | refine S.store rfl rfl (by (repeat' (first | assumption | exact AHeap.set_same _ _ _ | refine AHeap.get_fresh ‹_› ?_ | refine AHeap.so ?_ ?_ | exact AHeap.n1 ‹_› | exact AHeap.n2 ‹_› | exact AHeap.ne_of ‹_› ‹_› | exact AHeap.n4 ‹_› ‹_› | exact AHeap.n5 ‹_› | exact AHeap.n6 ‹_› | exact AHeap.n7 ‹_› ‹_› | exact AHeap.n8 ‹_› ‹_›)); first | done | fail) rfl rfl rfl (by rfl) rfl ?_) | refine S.skip rfl ?_ | refine S.skip0 rfl ?_ | refine S.seq ?_ | refine S.region ?_ | refine S.condT rfl ?_ | refine S.condF rfl ?_ | refine RRun.skip ?_ | refine RRun.block ?_ | refine RRun.inBlock ?_ | refine RRun.exit rfl ?_)
  refine S.keep [6, 2] rfl ?_
  refine S.rangeFunc rfl (FnIs.v 98 #[] #[.pointer (some ⟨q, 0, none⟩)]) (by kernel_rfl) (fun l0 e => by cases e) fun cx cy hx hy l hl => ?_
  have hlb : l ≠ b := (AHeap.fresh_set hl).1
  have fl : h l = none := (AHeap.fresh_set hl).2
  have hqb : q ≠ b := AHeap.ne_of hb hq
  have hql : q ≠ l := AHeap.ne_of fl hq
  generalize hH : AHeap.set _ l (.loop (loop0 _ 13 #[7] cx cy)) = H
  have H0 : ∀ x o, h x = some o → H x = some o := fun x o e => by
    have e1 : x ≠ b := AHeap.ne_of hb e
    have e2 : x ≠ l := AHeap.ne_of fl e
    rw [← hH]; simp only [AHeap.set, e1, e2, if_false]; exact e
  have I0 : AsI [(6, .v (.func (.func 98) #[] #[.pointer (some ⟨q, 0, none⟩)])), (2, ptr b)] cx cy lst l b 0 (fun x => x = l ∨ x = b ∨ False) H := by
    rw [← hH]
    exact ⟨Nat.zero_le _, AHeap.set_same _ _ _, _, fun _ => False, (AHeap.set_other _ _ (Ne.symm hlb)).trans (AHeap.set_same _ _ _), .inl ⟨rfl, rfl, fun _ e => e⟩, fun e => e, fun e => e, fun x => Iff.rfl⟩
  refine (values1_spec lst hlen l q H (fun x => x = l ∨ x = b ∨ False) (AsI [(6, .v (.func (.func 98) #[] #[.pointer (some ⟨q, 0, none⟩)])), (2, ptr b)] cx cy lst l b) (asI_client _ cx cy lst l b) ?_ I0 (H0 q _ hq)).mono ?_
  · intro j v hv C g hg
    exact as_round _ cx cy lst hlen l b hlb hx hy j v hv C g hg _
  · rintro x h' ⟨C, ⟨_, h1, d, B, h2, h3, h5, h6, h4⟩, hF, hC⟩
    rw [List.take_length] at h3
    refine ⟨_, h1, by simp, ?_⟩
    show RRunG _ _ _ _ _ _ _
    have D2 := (AHeap.del_other h' (Ne.symm hlb)).trans h2
    have D3 : RowG lst d B (h'.del l) := rowG_loc h3 fun x hx => AHeap.del_other h' (by rintro rfl; exact h5 hx)
    have HD : ∀ x o, h x = some o → h'.del l x = some o := fun x o e => (AHeap.del_other h' (AHeap.ne_of fl e)).trans (hF x o (H0 x o e) (by
      rintro (e' | e' | e')
      · subst e'; rw [fl] at e; cases e
      · subst e'; rw [hb] at e; cases e
      · exact e'))
    have HB : ∀ x, B x → h x = none := fun x hx => by
      rcases hC x ((h4 x).2 (.inr (.inr hx))) with (e | e | e) | e
      · subst e; exact fl
      · subst e; exact hb
      · exact absurd e id
      · cases he : h x with
        | none => rfl
        | some o => have := H0 x o he; rw [e] at this; cases this
    generalize h'.del l = D at D2 D3 HD ⊢
    repeat' (first | refine S.nilK ?_ | (refine S.op rfl ?_; first | refine R.mv rfl ?_ | refine R.loadR rfl rfl ?_ | refine R.load (by decide) rfl (by (repeat' (first | assumption | exact AHeap.set_same _ _ _ | refine AHeap.get_fresh ‹_› ?_ | refine AHeap.so ?_ ?_ | exact AHeap.n1 ‹_› | exact AHeap.n2 ‹_› | exact AHeap.ne_of ‹_› ‹_› | exact AHeap.n4 ‹_› ‹_› | exact AHeap.n5 ‹_› | exact AHeap.n6 ‹_› | exact AHeap.n7 ‹_› ‹_› | exact AHeap.n8 ‹_› ‹_›)); first | done | fail) rfl ?_ | refine R.box rfl rfl rfl (fun b hb => ?_) | refine R.buildSl rfl rfl rfl (by decide) ?_) | (refine S.op0 rfl ?_; first | refine S.storeS rfl rfl rfl (by rfl) rfl (by first | decide | exact Nat.le_refl _ | exact Nat.le_of_ble_eq_true rfl) ?_ | refine S.store rfl rfl (by (repeat' (first | assumption | exact AHeap.set_same _ _ _ | refine AHeap.get_fresh ‹_› ?_ | refine AHeap.so ?_ ?_ | exact AHeap.n1 ‹_› | exact AHeap.n2 ‹_› | exact AHeap.ne_of ‹_› ‹_› | exact AHeap.n4 ‹_› ‹_› | exact AHeap.n5 ‹_› | exact AHeap.n6 ‹_› | exact AHeap.n7 ‹_› ‹_› | exact AHeap.n8 ‹_› ‹_›)); first | done | fail) rfl rfl rfl (by rfl) rfl ?_) | refine S.skip rfl ?_ | refine S.skip0 rfl ?_ | refine S.seq ?_ | refine S.region ?_ | refine S.condT rfl ?_ | refine S.condF rfl ?_ | refine RRun.skip ?_ | refine RRun.block ?_ | refine RRun.inBlock ?_ | refine RRun.exit rfl ?_)
    apply S.ret rr102
    case hx => repeat (first | exact ResAt.nil | apply ResAt.tmp rfl | apply ResAt.cellA rfl (by (repeat' (first | assumption | exact AHeap.set_same _ _ _ | refine AHeap.get_fresh ‹_› ?_ | refine AHeap.so ?_ ?_ | exact AHeap.n1 ‹_› | exact AHeap.n2 ‹_› | exact AHeap.ne_of ‹_› ‹_› | exact AHeap.n4 ‹_› ‹_› | exact AHeap.n5 ‹_› | exact AHeap.n6 ‹_› | exact AHeap.n7 ‹_› ‹_› | exact AHeap.n8 ‹_› ‹_›)); first | done | fail) (by rfl) | apply ResAt.cell1 rfl (by (repeat' (first | assumption | exact AHeap.set_same _ _ _ | refine AHeap.get_fresh ‹_› ?_ | refine AHeap.so ?_ ?_ | exact AHeap.n1 ‹_› | exact AHeap.n2 ‹_› | exact AHeap.ne_of ‹_› ‹_› | exact AHeap.n4 ‹_› ‹_› | exact AHeap.n5 ‹_› | exact AHeap.n6 ‹_› | exact AHeap.n7 ‹_› ‹_› | exact AHeap.n8 ‹_› ‹_›)); first | done | fail) (by rfl))
    exact ⟨B, D3, HD, HB⟩

/-- slices.Collect[uint64] -/
def r96 : RCode :=
  (.seq (.region [
    ⟨(some 2), none, .act, .mv (.const (.slice none 0 0))⟩])
  (.seq (.region [
    ⟨(some 3), none, .act, .mv (.tmp 0)⟩,
    ⟨(some 4), none, .act, .call 102 [(.const (.slice none 0 0)), (.tmp 3)]⟩,
    ⟨(some 2), none, .act, .mv (.tmp 4)⟩])
  .ret))
theorem res96 : ∃ c, Try.f96.body = some c ∧ resCode Try.prog 5 c = some r96 := ⟨_, rfl, by kernel_rfl⟩
theorem rr96 : resRes Try.prog Try.f96.results.toList = some [.tmp 2] := by kernel_rfl
theorem collect_spec (lst : List UInt64) (hlen : lst.length ≤ 1000000) (q : Nat) (h : AHeap) (hq : h q = some (.box [u64s lst])) :
    ACalls Try.prog 96 [.v (.func (.func 98) #[] #[.pointer (some ⟨q, 0, none⟩)])] h (fun x h' => ∃ B, RowG lst x B h' ∧ (∀ y o, h y = some o → h' y = some o) ∧ (∀ y, B y → h y = none)) := by
  obtain ⟨c, hc1, hc2⟩ := res96
  refine ACalls.enter Try.func96 hc1 Try.ntmps96 hc2 (Nat.le_of_ble_eq_true rfl) rfl ?_
  repeat' (first | refine S.nilK ?_ | (refine S.op rfl ?_; first | refine R.mv rfl ?_) | refine S.skip rfl ?_ | refine S.skip0 rfl ?_ | refine S.seq ?_ | refine S.region ?_ | refine S.condT rfl ?_ | refine S.condF rfl ?_ | refine RRun.skip ?_ | refine RRun.block ?_ | refine RRun.inBlock ?_ | refine RRun.exit rfl ?_)
  refine S.op rfl (R.call rfl rfl ((appendSeq_spec lst hlen q h hq).mono ?_))
  rintro x h' ⟨B, h1, h2, h3⟩
  repeat' (first | refine S.nilK ?_ | (refine S.op rfl ?_; first | refine R.mv rfl ?_) | refine S.skip rfl ?_ | refine S.skip0 rfl ?_ | refine S.seq ?_ | refine S.region ?_ | refine S.condT rfl ?_ | refine S.condF rfl ?_ | refine RRun.skip ?_ | refine RRun.block ?_ | refine RRun.inBlock ?_ | refine RRun.exit rfl ?_)
  apply S.ret rr96
  case hx => repeat (first | exact ResAt.nil | apply ResAt.tmp rfl | apply ResAt.cellA rfl (by (repeat' (first | assumption | exact AHeap.set_same _ _ _ | refine AHeap.get_fresh ‹_› ?_ | refine AHeap.so ?_ ?_ | exact AHeap.n1 ‹_› | exact AHeap.n2 ‹_› | exact AHeap.ne_of ‹_› ‹_› | exact AHeap.n4 ‹_› ‹_› | exact AHeap.n5 ‹_› | exact AHeap.n6 ‹_› | exact AHeap.n7 ‹_› ‹_› | exact AHeap.n8 ‹_› ‹_›)); first | done | fail) (by rfl) | apply ResAt.cell1 rfl (by (repeat' (first | assumption | exact AHeap.set_same _ _ _ | refine AHeap.get_fresh ‹_› ?_ | refine AHeap.so ?_ ?_ | exact AHeap.n1 ‹_› | exact AHeap.n2 ‹_› | exact AHeap.ne_of ‹_› ‹_› | exact AHeap.n4 ‹_› ‹_› | exact AHeap.n5 ‹_› | exact AHeap.n6 ‹_› | exact AHeap.n7 ‹_› ‹_› | exact AHeap.n8 ‹_› ‹_›)); first | done | fail) (by rfl))
  exact ⟨B, h1, h2, h3⟩

end Go.Proofs.Ytnmgamcmjjngcaa
