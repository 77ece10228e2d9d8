import Derived.Test.YtcjcmegkfplnkaaL7
set_option linter.unusedVariables false
set_option linter.unusedSimpArgs false
namespace Go.Proofs.Ytcjcmegkfplnkaa
open Go.Av

def toksA (l : List Tok) (c : Cap) : AV := .sl 4 (l.map Tok.cells) c
def allAns (r : List Tok × Option (Int × Nat)) : AV :=
  match r.2 with
  | none => .tu [toksA r.1 .ro, i64 0, i64 0]
  | some (e, pos) => .tu [toksA [] .ro, i64 pos, i64 e]

def r8b0 : RCode :=
  (.block 1
   (.seq (.seq (.region [
     ⟨(some 12), none, .act, .mv (.tmp 7)⟩,
     ⟨(some 13), none, .act, .eq true .int (.tmp 12) (.const (.int .i64 0))⟩])
   (.cond (.tmp 13)
    (.seq (.regionT (.step ⟨(some 14), none, .pure, .fieldAddr 3 (.tmp 6)⟩ (.step ⟨(some 16), none, .pure, .mv (.tmp 7)⟩ (.alt ⟨(some 15), none, .read, .load false 1 (.tmp 14)⟩ (.alt ⟨none, none, .act, .store 1 (.tmp 2) (.const (.slice none 0 0))⟩ (.alt ⟨none, none, .act, .store 1 (.tmp 3) (.tmp 15)⟩ (.alt ⟨none, none, .act, .store 1 (.tmp 4) (.tmp 16)⟩ .done
    .stop)
    .stop)
    .stop)
    (.alt ⟨none, none, .act, .store 1 (.tmp 2) (.const (.slice none 0 0))⟩ (.step ⟨(some 15), none, .read, .load false 1 (.tmp 14)⟩ (.alt ⟨none, none, .act, .store 1 (.tmp 3) (.tmp 15)⟩ (.alt ⟨none, none, .act, .store 1 (.tmp 4) (.tmp 16)⟩ .done
    .stop)
    .stop))
    .stop)))))
    .ret)
    .skip))
   (.region [
     ⟨(some 17), none, .act, .load false 1 (.tmp 5)⟩,
     ⟨(some 18), none, .act, .load true 4 (.tmp 6)⟩,
     ⟨(some 19), none, .act, .buildSl 4 [(.int .i64 0), (.string ⟨#[]⟩), (.int .i64 0), (.int .i64 0)] 1 [(0, (.tmp 18))]⟩,
     ⟨(some 20), none, .act, .append 4 40 [(.int .i64 0), (.string ⟨#[]⟩), (.int .i64 0), (.int .i64 0)] (.tmp 17) (.tmp 19)⟩,
     ⟨none, none, .act, .store 1 (.tmp 5) (.tmp 20)⟩])))
/-- plenum/lex.All -/
def r8 : RCode :=
  (.seq (.region [
    ⟨(some 2), none, .act, .alloc [(.slice none 0 0)]⟩,
    ⟨(some 3), none, .act, .alloc [(.int .i64 0)]⟩,
    ⟨(some 4), none, .act, .alloc [(.int .i64 0)]⟩])
  (.seq (.region [
    ⟨(some 5), none, .act, .alloc [(.slice none 0 0)]⟩])
  (.seq (.seq (.region [
    ⟨(some 8), none, .act, .mv (.tmp 0)⟩,
    ⟨(some 9), none, .act, .call 10 [(.tmp 8)]⟩])
  (.block 0
   (.rangeFunc (.tmp 9) #[10, 11] (.seq (.region [
    ⟨(some 6), none, .act, .alloc [(.int .i64 0), (.string ⟨#[]⟩), (.int .i64 0), (.int .i64 0)]⟩,
    ⟨none, none, .act, .store 4 (.tmp 6) (.tmp 10)⟩])
  (.region [
    ⟨(some 7), none, .act, .mv (.tmp 11)⟩])) r8b0)))
  (.seq (.region [
    ⟨(some 21), none, .act, .load false 1 (.tmp 5)⟩,
    ⟨none, none, .act, .store 1 (.tmp 2) (.tmp 21)⟩,
    ⟨none, none, .act, .store 1 (.tmp 3) (.const (.int .i64 0))⟩,
    ⟨none, none, .act, .store 1 (.tmp 4) (.const (.int .i64 0))⟩])
  .ret))))
theorem res8 : ∃ c, Try.f8.body = some c ∧ resCode Try.prog 22 c = some r8 := ⟨_, rfl, by kernel_rfl⟩
theorem rr8 : resRes Try.prog Try.f8.results.toList = some [.cell 2 false 1, .cell 3 false 1, .cell 4 false 1] := by kernel_rfl

/-- What the loop of All holds: the list so far. -/
def AllI (L : List (Nat × AV)) (cx cy : Code) (ts : List Tok) (l b2 b3 b4 b5 : Nat) (k : Nat) (C : Nat → Prop) (h : AHeap) : Prop :=
  k ≤ ts.length ∧ ∃ c, h l = some (.loop (loop0 L 22 #[10, 11] cx cy)) ∧ h b5 = some (.box [toksA (ts.take k) c]) ∧ OwnT h c ∧ h b2 = some (.box [.v (.slice none 0 0)]) ∧ h b3 = some (.box [i64 0]) ∧ h b4 = some (.box [i64 0]) ∧
    ∀ x, C x ↔ (x = l ∨ x = b2 ∨ x = b3 ∨ x = b4 ∨ x = b5 ∨ TokC c x)

/-- Left by an error. -/
def AllZ (L : List (Nat × AV)) (cx cy : Code) (e : Int) (pos : Nat) (l b2 b3 b4 : Nat) (C : Nat → Prop) (h : AHeap) : Prop :=
  h l = some (.loop { loop0 L 22 #[10, 11] cx cy with state := .done, pending := some .ret }) ∧ h b2 = some (.box [.v (.slice none 0 0)]) ∧ h b3 = some (.box [i64 pos]) ∧ h b4 = some (.box [i64 e]) ∧ ¬ e = 0

theorem allI_client (L : List (Nat × AV)) (cx cy : Code) (ts : List Tok) (l b2 b3 b4 b5 : Nat) (k : Nat) : Client (AllI L cx cy ts l b2 b3 b4 b5 k) where
  own := by
    rintro C h ⟨_, c, h1, h2, h3, h4, h5, h6, h7⟩ x hx
    rcases (h7 x).1 hx with rfl | rfl | rfl | rfl | rfl | ht
    · rw [h1]; simp
    · rw [h4]; simp
    · rw [h5]; simp
    · rw [h6]; simp
    · rw [h2]; simp
    · exact ownT_own h3 x ht
  loc := by
    rintro C h h' ⟨h0, c, h1, h2, h3, h4, h5, h6, h7⟩ hl
    refine ⟨h0, c, ?_, ?_, ownT_loc h3 fun x hx => hl x ((h7 x).2 (.inr (.inr (.inr (.inr (.inr hx)))))), ?_, ?_, ?_, h7⟩
    · rw [hl l ((h7 l).2 (.inl rfl))]; exact h1
    · rw [hl b5 ((h7 b5).2 (by simp))]; exact h2
    · rw [hl b2 ((h7 b2).2 (by simp))]; exact h4
    · rw [hl b3 ((h7 b3).2 (by simp))]; exact h5
    · rw [hl b4 ((h7 b4).2 (by simp))]; exact h6

theorem one_tok (t : Tok) : ∀ e ∈ [t.cells], ∀ a ∈ e, a.one = true := by
  intro e he a ha
  simp only [List.mem_singleton] at he
  subst he
  simp only [Tok.cells, List.mem_cons, List.not_mem_nil, or_false] at ha
  rcases ha with rfl | rfl | rfl | rfl <;> rfl

theorem cutF_len : ∀ (f : Nat) (t : List UInt8) (i n : Nat), n ≤ 400 → (cutF f t i n).1.length ≤ 400 - n := by
  intro f
  induction f with
  | zero => intro t i n hn; simp [cutF]
  | succ f ih =>
    intro t i n hn
    by_cases h1 : t.drop (blanks t) = []
    · rw [cutF_end h1]; simp
    · by_cases h2 : n = 400
      · rw [cutF_long h1 h2]; simp
      · cases h3 : (nextR (t.drop (blanks t))).2.1 with
        | false => rw [cutF_bad h1 h2 h3]; simp
        | true =>
          rw [cutF_tok h1 h2 h3]
          have := ih ((t.drop (blanks t)).drop (nextR (t.drop (blanks t))).2.2) (i + blanks t + (nextR (t.drop (blanks t))).2.2) (n + 1) (by omega)
          simp only [List.length_cons]; omega

def asgAll : RCode := .seq (.region [⟨(some 6), none, .act, .alloc [(.int .i64 0), (.string ⟨#[]⟩), (.int .i64 0), (.int .i64 0)]⟩, ⟨none, none, .act, .store 4 (.tmp 6) (.tmp 10)⟩]) (.region [⟨(some 7), none, .act, .mv (.tmp 11)⟩])
def allL (clo : AV) (b2 b3 b4 b5 : Nat) : List (Nat × AV) := [(9, clo), (2, ptr b2), (3, ptr b3), (4, ptr b4), (5, ptr b5)]

/-- A round on a token. -/
theorem all_round (clo : AV) (cx cy : Code) (ts : List Tok) (hts : ts.length ≤ 400) (l b2 b3 b4 b5 : Nat) (hd : l ≠ b2 ∧ l ≠ b3 ∧ l ≠ b4 ∧ l ≠ b5 ∧ b2 ≠ b5 ∧ b3 ≠ b5 ∧ b4 ≠ b5)
    (hx : Resd Try.prog 22 cx asgAll) (hy : Resd Try.prog 22 cy r8b0)
    (k : Nat) (t : Tok) (ht : ts[k]? = some t) (C : Nat → Prop) (h : AHeap) (hI : AllI (allL clo b2 b3 b4 b5) cx cy ts l b2 b3 b4 b5 k C h) (Z : (Nat → Prop) → AHeap → Prop) :
    YStep Try.prog l [.ag t.cells, i64 0] C h (AllI (allL clo b2 b3 b4 b5) cx cy ts l b2 b3 b4 b5 (k + 1)) Z := by
  obtain ⟨hk, c, h1, h2, h3, h4, h5, h6, h7⟩ := hI
  obtain ⟨d2, d3, d4, d5, e2, e3, e4⟩ := hd
  have d5' := Ne.symm d5
  have hkl : k < ts.length := (List.getElem?_eq_some_iff.1 ht).1
  have htl : (ts.take k).length = k := by simp; omega
  refine AYield.mk h1 hx hy rfl rfl rfl ?_
  unfold asgAll
  repeat' (first | (refine S.begin (by (repeat' (first | assumption | exact AHeap.set_same _ _ _ | refine AHeap.get_fresh (by assumption) ?_ | refine AHeap.so ?_ ?_ | exact AHeap.n1 (by assumption) | exact AHeap.n2 (by assumption) | exact AHeap.ne_of (by assumption) (by assumption) | exact AHeap.n4 (by assumption) (by assumption) | exact AHeap.n5 (by assumption) | exact AHeap.n6 (by assumption) | exact AHeap.n7 (by assumption) (by assumption) | exact AHeap.n8 (by assumption) (by assumption))); first | done | fail) rfl ?_) | refine S.nilK ?_ | (refine S.op rfl ?_; first | refine R.mv rfl ?_ | refine R.fieldAddr rfl ?_ | refine R.fieldAddrR rfl ?_ | refine R.nilCheck rfl ?_ | refine R.nilCheckR rfl ?_ | refine R.loadR rfl rfl ?_ | refine R.load (by decide) rfl (by (repeat' (first | assumption | exact AHeap.set_same _ _ _ | refine AHeap.get_fresh (by assumption) ?_ | refine AHeap.so ?_ ?_ | exact AHeap.n1 (by assumption) | exact AHeap.n2 (by assumption) | exact AHeap.ne_of (by assumption) (by assumption) | exact AHeap.n4 (by assumption) (by assumption) | exact AHeap.n5 (by assumption) | exact AHeap.n6 (by assumption) | exact AHeap.n7 (by assumption) (by assumption) | exact AHeap.n8 (by assumption) (by assumption))); first | done | fail) rfl ?_ | refine S.addI rfl rfl (by omega) ?_ | refine S.subI rfl rfl (by omega) ?_ | refine S.addU rfl rfl ?_ | refine S.subU rfl rfl ?_ | refine S.addUc rfl (by decide) ?_ | refine S.subUc rfl (by decide) ?_ | refine S.arith rfl rfl rfl ?_ | refine R.pickT rfl rfl ?_ | refine R.pickF rfl rfl ?_ | refine R.len rfl ?_ | refine R.lenA rfl ?_ | refine R.lenStr rfl ?_ | refine S.convIU rfl (by omega) ?_ | refine S.convUI rfl (by omega) ?_ | refine R.convInt rfl ?_ | refine R.not rfl ?_ | refine R.eqPtrNil rfl rfl ?_ | refine R.extract rfl rfl ?_ | refine R.field rfl rfl ?_ | refine R.alloc rfl (fun b hb => ?_) | refine R.box rfl rfl rfl (fun b hb => ?_) | refine R.build rfl rfl ?_ | refine R.buildSl rfl rfl rfl (by decide) ?_ | refine R.toStr rfl ?_ | refine R.convStr rfl ?_ | refine R.minmax rfl ?_ | refine R.makeFunc rfl rfl ?_ | (first | refine S.lss rfl rfl (fun hlt => ?_) (fun hlt => by exfalso; omega) | refine S.lss rfl rfl (fun hlt => by exfalso; omega) (fun hlt => ?_) | refine S.lss rfl rfl (fun hlt => ?_) (fun hlt => ?_)) | (first | refine S.gtr rfl rfl (fun hlt => ?_) (fun hlt => by exfalso; omega) | refine S.gtr rfl rfl (fun hlt => by exfalso; omega) (fun hlt => ?_) | refine S.gtr rfl rfl (fun hlt => ?_) (fun hlt => ?_)) | (first | refine S.leq rfl rfl (fun hlt => ?_) (fun hlt => by exfalso; omega) | refine S.leq rfl rfl (fun hlt => by exfalso; omega) (fun hlt => ?_) | refine S.leq rfl rfl (fun hlt => ?_) (fun hlt => ?_)) | (first | refine S.geq rfl rfl (fun hlt => ?_) (fun hlt => by exfalso; omega) | refine S.geq rfl rfl (fun hlt => by exfalso; omega) (fun hlt => ?_) | refine S.geq rfl rfl (fun hlt => ?_) (fun hlt => ?_)) | (first | refine S.eqInt rfl rfl (fun hlt => ?_) (fun hlt => by exfalso; omega) | refine S.eqInt rfl rfl (fun hlt => by exfalso; omega) (fun hlt => ?_) | refine S.eqInt rfl rfl (fun hlt => ?_) (fun hlt => ?_))) | (refine S.op0 rfl ?_; first | refine S.storeS rfl rfl rfl (by rfl) rfl (by first | decide | exact Nat.le_refl _ | exact Nat.le_of_ble_eq_true rfl) ?_ | refine S.store rfl rfl (by (repeat' (first | assumption | exact AHeap.set_same _ _ _ | refine AHeap.get_fresh (by assumption) ?_ | refine AHeap.so ?_ ?_ | exact AHeap.n1 (by assumption) | exact AHeap.n2 (by assumption) | exact AHeap.ne_of (by assumption) (by assumption) | exact AHeap.n4 (by assumption) (by assumption) | exact AHeap.n5 (by assumption) | exact AHeap.n6 (by assumption) | exact AHeap.n7 (by assumption) (by assumption) | exact AHeap.n8 (by assumption) (by assumption))); first | done | fail) rfl rfl rfl (by rfl) rfl ?_) | refine S.skip rfl ?_ | refine S.skip0 rfl ?_ | refine S.seq ?_ | refine S.region ?_ | refine S.regionT ?_ | refine S.tstep ?_ | refine S.talt ?_ ?_ | exact S.tstop | refine S.tdone ?_ | refine S.condT rfl ?_ | refine S.condF rfl ?_ | refine RRun.skip ?_ | refine RRun.block ?_ | refine RRun.inBlock ?_ | refine RRun.exit rfl ?_)
  have hlb : l ≠ b := AHeap.ne_of hb h1
  have hb5 : b5 ≠ b := AHeap.ne_of hb h2
  have hCx : ∀ x, C x → x ≠ b := fun x hx e => (allI_client (allL clo b2 b3 b4 b5) cx cy ts l b2 b3 b4 b5 k).own C h ⟨hk, c, h1, h2, h3, h4, h5, h6, h7⟩ x hx (e ▸ hb)
  have htk : ∀ x, TokC c x → x ≠ b ∧ x ≠ l := fun x hx => ⟨hCx x ((h7 x).2 (by simp [hx])), fun e => by
    obtain ⟨u, s, e2⟩ := hx
    rcases h3 with e3 | ⟨b', u', s', e3, e4⟩
    · rw [e3] at e2; cases e2
    · rw [e3] at e2; cases e2; rw [e, h1] at e4; cases e4⟩
  refine S.op rfl (S.appendT (ys := [t.cells]) rfl ?_ rfl (.sl _ _) rfl (.sl _ _) (one_tok t) ?_ ?_ fun c' h' g1 g2 g3 => ?_)
  · exact ownT_loc h3 fun x hx => by simp only [AHeap.set, (htk x hx).1, (htk x hx).2, if_false]
  · simp only [List.length_map, htl, List.length_singleton]; omega
  · simp only [List.length_map, htl, List.length_singleton]; omega
  have keep : ∀ x o, h x = some o → x ≠ l → ¬ TokC c x → h' x = some o := fun x o e hxl hn => by
    have hxb : x ≠ b := AHeap.ne_of hb e
    exact g2 x o (by simp only [AHeap.set, hxb, hxl, if_false]; exact e) hn
  have hl' := g2 l _ (AHeap.set_same _ _ _) (fun hx => (htk l hx).2 rfl)
  have ntok : ∀ x cs, h x = some (.box cs) → ¬ TokC c x := fun x cs e ⟨u, s, e2⟩ => by
    rcases h3 with e3 | ⟨b', u', s', e3, e4⟩
    · rw [e3] at e2; cases e2
    · rw [e3] at e2; cases e2; rw [e] at e4; cases e4
  have k2 := keep b2 _ h4 (Ne.symm d2) (ntok _ _ h4)
  have k3 := keep b3 _ h5 (Ne.symm d3) (ntok _ _ h5)
  have k4 := keep b4 _ h6 (Ne.symm d4) (ntok _ _ h6)
  have k5 := keep b5 _ h2 d5' (ntok _ _ h2)
  repeat' (first | refine S.nilK ?_ | (refine S.op rfl ?_; first | refine R.mv rfl ?_ | refine R.fieldAddr rfl ?_ | refine R.fieldAddrR rfl ?_ | refine R.nilCheck rfl ?_ | refine R.nilCheckR rfl ?_ | refine R.loadR rfl rfl ?_ | refine R.load (by decide) rfl (by (repeat' (first | assumption | exact AHeap.set_same _ _ _ | refine AHeap.get_fresh (by assumption) ?_ | refine AHeap.so ?_ ?_ | exact AHeap.n1 (by assumption) | exact AHeap.n2 (by assumption) | exact AHeap.ne_of (by assumption) (by assumption) | exact AHeap.n4 (by assumption) (by assumption) | exact AHeap.n5 (by assumption) | exact AHeap.n6 (by assumption) | exact AHeap.n7 (by assumption) (by assumption) | exact AHeap.n8 (by assumption) (by assumption))); first | done | fail) rfl ?_ | refine S.addI rfl rfl (by omega) ?_ | refine S.subI rfl rfl (by omega) ?_ | refine S.addU rfl rfl ?_ | refine S.subU rfl rfl ?_ | refine S.addUc rfl (by decide) ?_ | refine S.subUc rfl (by decide) ?_ | refine S.arith rfl rfl rfl ?_ | refine R.pickT rfl rfl ?_ | refine R.pickF rfl rfl ?_ | refine R.len rfl ?_ | refine R.lenA rfl ?_ | refine R.lenStr rfl ?_ | refine S.convIU rfl (by omega) ?_ | refine S.convUI rfl (by omega) ?_ | refine R.convInt rfl ?_ | refine R.not rfl ?_ | refine R.eqPtrNil rfl rfl ?_ | refine R.extract rfl rfl ?_ | refine R.field rfl rfl ?_ | refine R.alloc rfl (fun b hb => ?_) | refine R.box rfl rfl rfl (fun b hb => ?_) | refine R.build rfl rfl ?_ | refine R.buildSl rfl rfl rfl (by decide) ?_ | refine R.toStr rfl ?_ | refine R.convStr rfl ?_ | refine R.minmax rfl ?_ | refine R.makeFunc rfl rfl ?_ | (first | refine S.lss rfl rfl (fun hlt => ?_) (fun hlt => by exfalso; omega) | refine S.lss rfl rfl (fun hlt => by exfalso; omega) (fun hlt => ?_) | refine S.lss rfl rfl (fun hlt => ?_) (fun hlt => ?_)) | (first | refine S.gtr rfl rfl (fun hlt => ?_) (fun hlt => by exfalso; omega) | refine S.gtr rfl rfl (fun hlt => by exfalso; omega) (fun hlt => ?_) | refine S.gtr rfl rfl (fun hlt => ?_) (fun hlt => ?_)) | (first | refine S.leq rfl rfl (fun hlt => ?_) (fun hlt => by exfalso; omega) | refine S.leq rfl rfl (fun hlt => by exfalso; omega) (fun hlt => ?_) | refine S.leq rfl rfl (fun hlt => ?_) (fun hlt => ?_)) | (first | refine S.geq rfl rfl (fun hlt => ?_) (fun hlt => by exfalso; omega) | refine S.geq rfl rfl (fun hlt => by exfalso; omega) (fun hlt => ?_) | refine S.geq rfl rfl (fun hlt => ?_) (fun hlt => ?_)) | (first | refine S.eqInt rfl rfl (fun hlt => ?_) (fun hlt => by exfalso; omega) | refine S.eqInt rfl rfl (fun hlt => by exfalso; omega) (fun hlt => ?_) | refine S.eqInt rfl rfl (fun hlt => ?_) (fun hlt => ?_))) | (refine S.op0 rfl ?_; first | refine S.storeS rfl rfl rfl (by rfl) rfl (by first | decide | exact Nat.le_refl _ | exact Nat.le_of_ble_eq_true rfl) ?_ | refine S.store rfl rfl (by (repeat' (first | assumption | exact AHeap.set_same _ _ _ | refine AHeap.get_fresh (by assumption) ?_ | refine AHeap.so ?_ ?_ | exact AHeap.n1 (by assumption) | exact AHeap.n2 (by assumption) | exact AHeap.ne_of (by assumption) (by assumption) | exact AHeap.n4 (by assumption) (by assumption) | exact AHeap.n5 (by assumption) | exact AHeap.n6 (by assumption) | exact AHeap.n7 (by assumption) (by assumption) | exact AHeap.n8 (by assumption) (by assumption))); first | done | fail) rfl rfl rfl (by rfl) rfl ?_) | refine S.skip rfl ?_ | refine S.skip0 rfl ?_ | refine S.seq ?_ | refine S.region ?_ | refine S.regionT ?_ | refine S.tstep ?_ | refine S.talt ?_ ?_ | exact S.tstop | refine S.tdone ?_ | refine S.condT rfl ?_ | refine S.condF rfl ?_ | refine RRun.skip ?_ | refine RRun.block ?_ | refine RRun.inBlock ?_ | refine RRun.exit rfl ?_)
  refine RRunG.done ?_
  have htake : ts.take (k + 1) = ts.take k ++ [t] := by rw [List.take_add_one, ht]; rfl
  have ntok' : ∀ x o, h' x = some o → (∀ u s, o ≠ .grow u s) → ¬ TokC c' x := fun x o e hg ⟨u, s, e2⟩ => by
    rcases g1 with e3 | ⟨b', u', s', e3, e4⟩
    · rw [e3] at e2; cases e2
    · rw [e3] at e2; cases e2; rw [e] at e4; cases e4; exact hg _ _ rfl
  have htk' : ∀ x, TokC c' x → x ≠ b5 ∧ x ≠ l := fun x hx => ⟨fun e => ntok' b5 _ k5 (by simp) (e ▸ hx), fun e => ntok' l _ hl' (by simp) (e ▸ hx)⟩
  refine ⟨_, (AHeap.set_other _ _ d5).trans hl', fun x => (x = l ∨ x = b2 ∨ x = b3 ∨ x = b4 ∨ x = b5 ∨ TokC c' x), ?_, ?_, ?_⟩
  · intro x hx
    rcases hx with e | e | e | e | e | e
    · exact .inl ((h7 x).2 (.inl e))
    · exact .inl ((h7 x).2 (by simp [e]))
    · exact .inl ((h7 x).2 (by simp [e]))
    · exact .inl ((h7 x).2 (by simp [e]))
    · exact .inl ((h7 x).2 (by simp [e]))
    · rcases g3 x e with e | e
      · exact .inl ((h7 x).2 (by simp [e]))
      · exact .inr (AHeap.z2 e)
  · intro x o e hn
    have hn' : ¬ (x = l ∨ x = b2 ∨ x = b3 ∨ x = b4 ∨ x = b5 ∨ TokC c x) := fun q => hn ((h7 x).2 q)
    have x1 : x ≠ l := fun e => hn' (.inl e)
    have x5 : x ≠ b5 := fun e => hn' (by simp [e])
    simp only [AHeap.set, x1, x5, if_false]
    exact keep x o e x1 fun q => hn' (by simp [q])
  · show AllI _ _ _ _ _ _ _ _ _ _ _ _
    refine ⟨hkl, c', AHeap.set_same _ _ _, ?_, ?_, ?_, ?_, ?_, fun x => Iff.rfl⟩
    · refine (AHeap.set_other _ _ d5').trans ((AHeap.set_same _ _ _).trans ?_)
      rw [htake]
      simp only [toksA, List.map_append, List.map_cons, List.map_nil]
      rfl
    · exact ownT_loc g1 fun x hx => by simp only [AHeap.set, (htk' x hx).1, (htk' x hx).2, if_false]
    · simp only [AHeap.set, Ne.symm d2, e2, if_false]; exact k2
    · simp only [AHeap.set, Ne.symm d3, e3, if_false]; exact k3
    · simp only [AHeap.set, Ne.symm d4, e4, if_false]; exact k4

/-- A round on an error. -/
theorem all_round_err (clo : AV) (cx cy : Code) (ts : List Tok) (l b2 b3 b4 b5 : Nat) (hd : l ≠ b2 ∧ l ≠ b3 ∧ l ≠ b4 ∧ b2 ≠ b3 ∧ b2 ≠ b4 ∧ b3 ≠ b4)
    (hx : Resd Try.prog 22 cx asgAll) (hy : Resd Try.prog 22 cy r8b0)
    (k : Nat) (e : Int) (he : ¬ e = 0) (pos : Nat) (C : Nat → Prop) (h : AHeap) (hI : AllI (allL clo b2 b3 b4 b5) cx cy ts l b2 b3 b4 b5 k C h) (N : (Nat → Prop) → AHeap → Prop) :
    YStep Try.prog l [.ag (errTok pos).cells, i64 e] C h N (AllZ (allL clo b2 b3 b4 b5) cx cy e pos l b2 b3 b4) := by
  have hI' := hI
  obtain ⟨hk, c, h1, h2, h3, h4, h5, h6, h7⟩ := hI
  obtain ⟨d2, d3, d4, e1, e2, e3⟩ := hd
  have d2' := Ne.symm d2
  have d3' := Ne.symm d3
  have d4' := Ne.symm d4
  have e1' := Ne.symm e1
  have e2' := Ne.symm e2
  have e3' := Ne.symm e3
  refine AYield.mk h1 hx hy rfl rfl rfl ?_
  unfold asgAll
  repeat' (first | (refine S.begin (by (repeat' (first | assumption | exact AHeap.set_same _ _ _ | refine AHeap.get_fresh (by assumption) ?_ | refine AHeap.so ?_ ?_ | exact AHeap.n1 (by assumption) | exact AHeap.n2 (by assumption) | exact AHeap.ne_of (by assumption) (by assumption) | exact AHeap.n4 (by assumption) (by assumption) | exact AHeap.n5 (by assumption) | exact AHeap.n6 (by assumption) | exact AHeap.n7 (by assumption) (by assumption) | exact AHeap.n8 (by assumption) (by assumption))); first | done | fail) rfl ?_) | refine S.nilK ?_ | (refine S.op rfl ?_; first | refine R.mv rfl ?_ | refine R.fieldAddr rfl ?_ | refine R.fieldAddrR rfl ?_ | refine R.nilCheck rfl ?_ | refine R.nilCheckR rfl ?_ | refine R.loadR rfl rfl ?_ | refine R.load (by decide) rfl (by (repeat' (first | assumption | exact AHeap.set_same _ _ _ | refine AHeap.get_fresh (by assumption) ?_ | refine AHeap.so ?_ ?_ | exact AHeap.n1 (by assumption) | exact AHeap.n2 (by assumption) | exact AHeap.ne_of (by assumption) (by assumption) | exact AHeap.n4 (by assumption) (by assumption) | exact AHeap.n5 (by assumption) | exact AHeap.n6 (by assumption) | exact AHeap.n7 (by assumption) (by assumption) | exact AHeap.n8 (by assumption) (by assumption))); first | done | fail) rfl ?_ | refine S.addI rfl rfl (by omega) ?_ | refine S.subI rfl rfl (by omega) ?_ | refine S.addU rfl rfl ?_ | refine S.subU rfl rfl ?_ | refine S.addUc rfl (by decide) ?_ | refine S.subUc rfl (by decide) ?_ | refine S.arith rfl rfl rfl ?_ | refine R.pickT rfl rfl ?_ | refine R.pickF rfl rfl ?_ | refine R.len rfl ?_ | refine R.lenA rfl ?_ | refine R.lenStr rfl ?_ | refine S.convIU rfl (by omega) ?_ | refine S.convUI rfl (by omega) ?_ | refine R.convInt rfl ?_ | refine R.not rfl ?_ | refine R.eqPtrNil rfl rfl ?_ | refine R.extract rfl rfl ?_ | refine R.field rfl rfl ?_ | refine R.alloc rfl (fun b hb => ?_) | refine R.box rfl rfl rfl (fun b hb => ?_) | refine R.build rfl rfl ?_ | refine R.buildSl rfl rfl rfl (by decide) ?_ | refine R.toStr rfl ?_ | refine R.convStr rfl ?_ | refine R.minmax rfl ?_ | refine R.makeFunc rfl rfl ?_ | (first | refine S.lss rfl rfl (fun hlt => ?_) (fun hlt => by exfalso; omega) | refine S.lss rfl rfl (fun hlt => by exfalso; omega) (fun hlt => ?_) | refine S.lss rfl rfl (fun hlt => ?_) (fun hlt => ?_)) | (first | refine S.gtr rfl rfl (fun hlt => ?_) (fun hlt => by exfalso; omega) | refine S.gtr rfl rfl (fun hlt => by exfalso; omega) (fun hlt => ?_) | refine S.gtr rfl rfl (fun hlt => ?_) (fun hlt => ?_)) | (first | refine S.leq rfl rfl (fun hlt => ?_) (fun hlt => by exfalso; omega) | refine S.leq rfl rfl (fun hlt => by exfalso; omega) (fun hlt => ?_) | refine S.leq rfl rfl (fun hlt => ?_) (fun hlt => ?_)) | (first | refine S.geq rfl rfl (fun hlt => ?_) (fun hlt => by exfalso; omega) | refine S.geq rfl rfl (fun hlt => by exfalso; omega) (fun hlt => ?_) | refine S.geq rfl rfl (fun hlt => ?_) (fun hlt => ?_)) | (first | refine S.eqInt rfl rfl (fun hlt => ?_) (fun hlt => by exfalso; omega) | refine S.eqInt rfl rfl (fun hlt => by exfalso; omega) (fun hlt => ?_) | refine S.eqInt rfl rfl (fun hlt => ?_) (fun hlt => ?_))) | (refine S.op0 rfl ?_; first | refine S.storeS rfl rfl rfl (by rfl) rfl (by first | decide | exact Nat.le_refl _ | exact Nat.le_of_ble_eq_true rfl) ?_ | refine S.store rfl rfl (by (repeat' (first | assumption | exact AHeap.set_same _ _ _ | refine AHeap.get_fresh (by assumption) ?_ | refine AHeap.so ?_ ?_ | exact AHeap.n1 (by assumption) | exact AHeap.n2 (by assumption) | exact AHeap.ne_of (by assumption) (by assumption) | exact AHeap.n4 (by assumption) (by assumption) | exact AHeap.n5 (by assumption) | exact AHeap.n6 (by assumption) | exact AHeap.n7 (by assumption) (by assumption) | exact AHeap.n8 (by assumption) (by assumption))); first | done | fail) rfl rfl rfl (by rfl) rfl ?_) | refine S.skip rfl ?_ | refine S.skip0 rfl ?_ | refine S.seq ?_ | refine S.region ?_ | refine S.regionT ?_ | refine S.tstep ?_ | refine S.talt ?_ ?_ | exact S.tstop | refine S.tdone ?_ | refine S.condT rfl ?_ | refine S.condF rfl ?_ | refine RRun.skip ?_ | refine RRun.block ?_ | refine RRun.inBlock ?_ | refine RRun.exit rfl ?_)
  all_goals
    have n2 : b2 ≠ b := AHeap.ne_of hb h4
    have n3 : b3 ≠ b := AHeap.ne_of hb h5
    have n4 : b4 ≠ b := AHeap.ne_of hb h6
    have nl : l ≠ b := AHeap.ne_of hb h1
    refine RRunG.ret ?_
    refine ⟨_, (by (repeat' (first | assumption | exact AHeap.set_same _ _ _ | refine AHeap.get_fresh (by assumption) ?_ | refine AHeap.so ?_ ?_ | exact AHeap.n1 (by assumption) | exact AHeap.n2 (by assumption) | exact AHeap.ne_of (by assumption) (by assumption) | exact AHeap.n4 (by assumption) (by assumption) | exact AHeap.n5 (by assumption) | exact AHeap.n6 (by assumption) | exact AHeap.n7 (by assumption) (by assumption) | exact AHeap.n8 (by assumption) (by assumption))); first | done | fail), C, fun x hx => .inl hx, ?_, ?_⟩
    · intro x o e hn
      have hn' : ¬ (x = l ∨ x = b2 ∨ x = b3 ∨ x = b4 ∨ x = b5 ∨ TokC c x) := fun q => hn ((h7 x).2 q)
      have x1 : x ≠ l := fun e => hn' (.inl e)
      have x2 : x ≠ b2 := fun e => hn' (by simp [e])
      have x3 : x ≠ b3 := fun e => hn' (by simp [e])
      have x4 : x ≠ b4 := fun e => hn' (by simp [e])
      have xb : x ≠ b := AHeap.ne_of hb e
      simp only [AHeap.set, x1, x2, x3, x4, xb, if_false]
      exact e
    · show AllZ _ _ _ _ _ _ _ _ _ C _
      refine ⟨AHeap.set_same _ _ _, ?_, ?_, ?_, he⟩
      · simp [AHeap.set, d2', e1, e2, n2, h4, over]
      · simp [AHeap.set, d3', e1', e3, n3, h5, over, errTok]
      · simp [AHeap.set, d4', e2', e3', n4, h6, over]

theorem le_box {h : AHeap} {b : Nat} {o o' : ABlk} (ho : BLe o' o) : (h.set b o).le (h.set b o') := box_le ho

theorem yields_get {r : List Tok × Option (Int × Nat)} {j : Nat} {vs : List AV} (h : (yields r)[j]? = some vs) : (∃ t, r.1[j]? = some t ∧ vs = [.ag t.cells, i64 0]) ∨ (j = r.1.length ∧ ∃ e pos, r.2 = some (e, pos) ∧ vs = [.ag (errTok pos).cells, i64 e]) := by
  unfold yields at h
  rw [List.getElem?_append] at h
  split at h
  · rw [List.getElem?_map] at h
    cases ht : r.1[j]? with
    | none => rw [ht] at h; cases h
    | some t => rw [ht] at h; cases h; exact .inl ⟨t, rfl, rfl⟩
  · rename_i hge
    simp only [List.length_map] at h hge
    cases h2 : r.2 with
    | none => rw [h2] at h; simp at h
    | some ep =>
      obtain ⟨e, pos⟩ := ep
      rw [h2] at h
      simp only at h
      have : j - r.1.length = 0 := by
        rcases Nat.eq_zero_or_pos (j - r.1.length) with hz | hz
        · exact hz
        · rw [List.getElem?_eq_none (by simp; omega)] at h; cases h
      rw [this] at h
      cases h
      exact .inr ⟨by omega, e, pos, rfl, rfl⟩

theorem cutF_err : ∀ (f : Nat) (t : List UInt8) (i n : Nat) (e : Int) (pos : Nat), (cutF f t i n).2 = some (e, pos) → e = 2 ∨ e = 190 := by
  intro f
  induction f with
  | zero => intro t i n e pos h; simp [cutF] at h
  | succ f ih =>
    intro t i n e pos h
    by_cases h1 : t.drop (blanks t) = []
    · rw [cutF_end h1] at h; cases h
    · by_cases h2 : n = 400
      · rw [cutF_long h1 h2] at h; cases h; exact .inl rfl
      · cases h3 : (nextR (t.drop (blanks t))).2.1 with
        | false => rw [cutF_bad h1 h2 h3] at h; cases h; exact .inr rfl
        | true => rw [cutF_tok h1 h2 h3] at h; exact ih _ _ _ _ _ h

theorem all_spec (s : List UInt8) (hs : s.length ≤ 2000000) (h : AHeap) : ACalls Try.prog 8 [str s] h (fun x h' => x = allAns (cutS s) ∧ h' = h) := by
  obtain ⟨c, hc1, hc2⟩ := res8
  refine ACalls.weak (ACalls.enter Try.func8 hc1 Try.ntmps8 hc2 (Nat.le_of_ble_eq_true rfl) rfl ?_)
  repeat' (first | refine S.nilK ?_ | (refine S.op rfl ?_; first | refine R.mv rfl ?_ | refine R.fieldAddr rfl ?_ | refine R.fieldAddrR rfl ?_ | refine R.nilCheck rfl ?_ | refine R.nilCheckR rfl ?_ | refine R.loadR rfl rfl ?_ | refine R.load (by decide) rfl (by (repeat' (first | assumption | exact AHeap.set_same _ _ _ | refine AHeap.get_fresh (by assumption) ?_ | refine AHeap.so ?_ ?_ | exact AHeap.n1 (by assumption) | exact AHeap.n2 (by assumption) | exact AHeap.ne_of (by assumption) (by assumption) | exact AHeap.n4 (by assumption) (by assumption) | exact AHeap.n5 (by assumption) | exact AHeap.n6 (by assumption) | exact AHeap.n7 (by assumption) (by assumption) | exact AHeap.n8 (by assumption) (by assumption))); first | done | fail) rfl ?_ | refine S.addI rfl rfl (by omega) ?_ | refine S.subI rfl rfl (by omega) ?_ | refine S.addU rfl rfl ?_ | refine S.subU rfl rfl ?_ | refine S.addUc rfl (by decide) ?_ | refine S.subUc rfl (by decide) ?_ | refine S.arith rfl rfl rfl ?_ | refine R.pickT rfl rfl ?_ | refine R.pickF rfl rfl ?_ | refine R.len rfl ?_ | refine R.lenA rfl ?_ | refine R.lenStr rfl ?_ | refine S.convIU rfl (by omega) ?_ | refine S.convUI rfl (by omega) ?_ | refine R.convInt rfl ?_ | refine R.not rfl ?_ | refine R.eqPtrNil rfl rfl ?_ | refine R.extract rfl rfl ?_ | refine R.field rfl rfl ?_ | refine R.alloc rfl (fun b hb => ?_) | refine R.box rfl rfl rfl (fun b hb => ?_) | refine R.build rfl rfl ?_ | refine R.buildSl rfl rfl rfl (by decide) ?_ | refine R.toStr rfl ?_ | refine R.convStr rfl ?_ | refine R.minmax rfl ?_ | refine R.makeFunc rfl rfl ?_ | (first | refine S.lss rfl rfl (fun hlt => ?_) (fun hlt => by exfalso; omega) | refine S.lss rfl rfl (fun hlt => by exfalso; omega) (fun hlt => ?_) | refine S.lss rfl rfl (fun hlt => ?_) (fun hlt => ?_)) | (first | refine S.gtr rfl rfl (fun hlt => ?_) (fun hlt => by exfalso; omega) | refine S.gtr rfl rfl (fun hlt => by exfalso; omega) (fun hlt => ?_) | refine S.gtr rfl rfl (fun hlt => ?_) (fun hlt => ?_)) | (first | refine S.leq rfl rfl (fun hlt => ?_) (fun hlt => by exfalso; omega) | refine S.leq rfl rfl (fun hlt => by exfalso; omega) (fun hlt => ?_) | refine S.leq rfl rfl (fun hlt => ?_) (fun hlt => ?_)) | (first | refine S.geq rfl rfl (fun hlt => ?_) (fun hlt => by exfalso; omega) | refine S.geq rfl rfl (fun hlt => by exfalso; omega) (fun hlt => ?_) | refine S.geq rfl rfl (fun hlt => ?_) (fun hlt => ?_)) | (first | refine S.eqInt rfl rfl (fun hlt => ?_) (fun hlt => by exfalso; omega) | refine S.eqInt rfl rfl (fun hlt => by exfalso; omega) (fun hlt => ?_) | refine S.eqInt rfl rfl (fun hlt => ?_) (fun hlt => ?_))) | (refine S.op0 rfl ?_; first | refine S.storeS rfl rfl rfl (by rfl) rfl (by first | decide | exact Nat.le_refl _ | exact Nat.le_of_ble_eq_true rfl) ?_ | refine S.store rfl rfl (by (repeat' (first | assumption | exact AHeap.set_same _ _ _ | refine AHeap.get_fresh (by assumption) ?_ | refine AHeap.so ?_ ?_ | exact AHeap.n1 (by assumption) | exact AHeap.n2 (by assumption) | exact AHeap.ne_of (by assumption) (by assumption) | exact AHeap.n4 (by assumption) (by assumption) | exact AHeap.n5 (by assumption) | exact AHeap.n6 (by assumption) | exact AHeap.n7 (by assumption) (by assumption) | exact AHeap.n8 (by assumption) (by assumption))); first | done | fail) rfl rfl rfl (by rfl) rfl ?_) | refine S.skip rfl ?_ | refine S.skip0 rfl ?_ | refine S.seq ?_ | refine S.region ?_ | refine S.regionT ?_ | refine S.tstep ?_ | refine S.talt ?_ ?_ | exact S.tstop | refine S.tdone ?_ | refine S.condT rfl ?_ | refine S.condF rfl ?_ | refine RRun.skip ?_ | refine RRun.block ?_ | refine RRun.inBlock ?_ | refine RRun.exit rfl ?_)
  refine S.op rfl (R.call rfl rfl ((tokens_fn s _).mono ?_))
  rintro x h' ⟨q, hq, rfl, rfl⟩
  repeat' (first | refine S.nilK ?_ | (refine S.op rfl ?_; first | refine R.mv rfl ?_ | refine R.fieldAddr rfl ?_ | refine R.fieldAddrR rfl ?_ | refine R.nilCheck rfl ?_ | refine R.nilCheckR rfl ?_ | refine R.loadR rfl rfl ?_ | refine R.load (by decide) rfl (by (repeat' (first | assumption | exact AHeap.set_same _ _ _ | refine AHeap.get_fresh (by assumption) ?_ | refine AHeap.so ?_ ?_ | exact AHeap.n1 (by assumption) | exact AHeap.n2 (by assumption) | exact AHeap.ne_of (by assumption) (by assumption) | exact AHeap.n4 (by assumption) (by assumption) | exact AHeap.n5 (by assumption) | exact AHeap.n6 (by assumption) | exact AHeap.n7 (by assumption) (by assumption) | exact AHeap.n8 (by assumption) (by assumption))); first | done | fail) rfl ?_ | refine S.addI rfl rfl (by omega) ?_ | refine S.subI rfl rfl (by omega) ?_ | refine S.addU rfl rfl ?_ | refine S.subU rfl rfl ?_ | refine S.addUc rfl (by decide) ?_ | refine S.subUc rfl (by decide) ?_ | refine S.arith rfl rfl rfl ?_ | refine R.pickT rfl rfl ?_ | refine R.pickF rfl rfl ?_ | refine R.len rfl ?_ | refine R.lenA rfl ?_ | refine R.lenStr rfl ?_ | refine S.convIU rfl (by omega) ?_ | refine S.convUI rfl (by omega) ?_ | refine R.convInt rfl ?_ | refine R.not rfl ?_ | refine R.eqPtrNil rfl rfl ?_ | refine R.extract rfl rfl ?_ | refine R.field rfl rfl ?_ | refine R.alloc rfl (fun b hb => ?_) | refine R.box rfl rfl rfl (fun b hb => ?_) | refine R.build rfl rfl ?_ | refine R.buildSl rfl rfl rfl (by decide) ?_ | refine R.toStr rfl ?_ | refine R.convStr rfl ?_ | refine R.minmax rfl ?_ | refine R.makeFunc rfl rfl ?_ | (first | refine S.lss rfl rfl (fun hlt => ?_) (fun hlt => by exfalso; omega) | refine S.lss rfl rfl (fun hlt => by exfalso; omega) (fun hlt => ?_) | refine S.lss rfl rfl (fun hlt => ?_) (fun hlt => ?_)) | (first | refine S.gtr rfl rfl (fun hlt => ?_) (fun hlt => by exfalso; omega) | refine S.gtr rfl rfl (fun hlt => by exfalso; omega) (fun hlt => ?_) | refine S.gtr rfl rfl (fun hlt => ?_) (fun hlt => ?_)) | (first | refine S.leq rfl rfl (fun hlt => ?_) (fun hlt => by exfalso; omega) | refine S.leq rfl rfl (fun hlt => by exfalso; omega) (fun hlt => ?_) | refine S.leq rfl rfl (fun hlt => ?_) (fun hlt => ?_)) | (first | refine S.geq rfl rfl (fun hlt => ?_) (fun hlt => by exfalso; omega) | refine S.geq rfl rfl (fun hlt => by exfalso; omega) (fun hlt => ?_) | refine S.geq rfl rfl (fun hlt => ?_) (fun hlt => ?_)) | (first | refine S.eqInt rfl rfl (fun hlt => ?_) (fun hlt => by exfalso; omega) | refine S.eqInt rfl rfl (fun hlt => by exfalso; omega) (fun hlt => ?_) | refine S.eqInt rfl rfl (fun hlt => ?_) (fun hlt => ?_))) | (refine S.op0 rfl ?_; first | refine S.storeS rfl rfl rfl (by rfl) rfl (by first | decide | exact Nat.le_refl _ | exact Nat.le_of_ble_eq_true rfl) ?_ | refine S.store rfl rfl (by (repeat' (first | assumption | exact AHeap.set_same _ _ _ | refine AHeap.get_fresh (by assumption) ?_ | refine AHeap.so ?_ ?_ | exact AHeap.n1 (by assumption) | exact AHeap.n2 (by assumption) | exact AHeap.ne_of (by assumption) (by assumption) | exact AHeap.n4 (by assumption) (by assumption) | exact AHeap.n5 (by assumption) | exact AHeap.n6 (by assumption) | exact AHeap.n7 (by assumption) (by assumption) | exact AHeap.n8 (by assumption) (by assumption))); first | done | fail) rfl rfl rfl (by rfl) rfl ?_) | refine S.skip rfl ?_ | refine S.skip0 rfl ?_ | refine S.seq ?_ | refine S.region ?_ | refine S.regionT ?_ | refine S.tstep ?_ | refine S.talt ?_ ?_ | exact S.tstop | refine S.tdone ?_ | refine S.condT rfl ?_ | refine S.condF rfl ?_ | refine RRun.skip ?_ | refine RRun.block ?_ | refine RRun.inBlock ?_ | refine RRun.exit rfl ?_)
  rename_i b2 hb2 b3 hb3 b4 hb4
  have m32 : b3 ≠ b2 := AHeap.n1 hb3
  have m42 : b4 ≠ b2 := AHeap.n5 hb4
  have m43 : b4 ≠ b3 := AHeap.n1 hb4
  have m52 : b ≠ b2 := AHeap.n1 (AHeap.z2 hb) 
  have m53 : b ≠ b3 := AHeap.n5 hb
  have m54 : b ≠ b4 := AHeap.n1 hb
  have mq5 : q ≠ b := AHeap.n1 hq
  have mq4 : q ≠ b4 := AHeap.n5 hq
  have mq3 : q ≠ b3 := AHeap.n5 (AHeap.z1 hq)
  have mq2 : q ≠ b2 := AHeap.n1 (AHeap.z3 hq)
  have f3 : h b3 = none := AHeap.z1 hb3
  have f4 : h b4 = none := AHeap.z2 hb4
  have f5 : h b = none := AHeap.z3 hb
  have fq : h q = none := AHeap.z1 (AHeap.z3 hq)
  refine RRun.sub (AHeap.le.both (box_le (.box (ys := [toksA [] .full]) (.cons (.nilSl 4 trivial) .nil))) q _) ?_
  refine S.keep [9, 2, 3, 4, 5] rfl ?_
  refine S.rangeFunc rfl (FnIs.v 14 #[] #[.pointer (some ⟨q, 0, none⟩)]) rfl (fun l0 e => by cases e) fun cx cy hx hy l hl => ?_
  have fl : h l = none ∧ l ≠ b2 ∧ l ≠ b3 ∧ l ≠ b4 ∧ l ≠ b ∧ l ≠ q := by
    have g1 := AHeap.fresh_set hl
    have g2 := AHeap.fresh_set g1.2
    have g3 := AHeap.fresh_set g2.2
    have g4 := AHeap.fresh_set g3.2
    have g5 := AHeap.fresh_set g4.2
    exact ⟨g5.2, g5.1, g4.1, g3.1, g2.1, g1.1⟩
  obtain ⟨fl, l2, l3, l4, l5, lq⟩ := fl
  have hlen := cutF_len (s.length + 1) s 0 0 (by decide)
  generalize hH : AHeap.set _ l (.loop (loop0 _ 22 #[10, 11] cx cy)) = H
  have H0 : ∀ x o, h x = some o → H x = some o := fun x o e => by
    have e2 : x ≠ b2 := AHeap.ne_of hb2 e
    have e3 : x ≠ b3 := AHeap.ne_of f3 e
    have e4 : x ≠ b4 := AHeap.ne_of f4 e
    have e5 : x ≠ b := AHeap.ne_of f5 e
    have eq : x ≠ q := AHeap.ne_of fq e
    have el : x ≠ l := AHeap.ne_of fl e
    rw [← hH]; simp only [AHeap.set, e2, e3, e4, e5, eq, el, if_false]; exact e
  have I0 : AllI (allL (.v (.func (.func 14) #[] #[.pointer (some ⟨q, 0, none⟩)])) b2 b3 b4 b) cx cy (cutS s).1 l b2 b3 b4 b 0 (fun x => x = l ∨ x = b2 ∨ x = b3 ∨ x = b4 ∨ x = b) H := by
    rw [← hH]
    refine ⟨Nat.zero_le _, .full, AHeap.set_same _ _ _, ?_, .inl rfl, ?_, ?_, ?_, fun x => ?_⟩
    · simp [AHeap.set, Ne.symm l5, Ne.symm mq5]
    · simp [AHeap.set, Ne.symm l2, Ne.symm mq2, Ne.symm m52, Ne.symm m42, Ne.symm m32]
    · simp [AHeap.set, Ne.symm l3, Ne.symm mq3, Ne.symm m53, Ne.symm m43]
    · simp [AHeap.set, Ne.symm l4, Ne.symm mq4, Ne.symm m54]
    · constructor
      · rintro (e | e | e | e | e) <;> simp [e]
      · rintro (e | e | e | e | e | ⟨u, s, e⟩)
        · simp [e]
        · simp [e]
        · simp [e]
        · simp [e]
        · simp [e]
        · cases e
  have hq0 : H q = some (.box [str s]) := by rw [← hH]; simp [AHeap.set, Ne.symm lq]
  refine (tokens_spec s hs l q H (fun x => x = l ∨ x = b2 ∨ x = b3 ∨ x = b4 ∨ x = b) (AllI (allL (.v (.func (.func 14) #[] #[.pointer (some ⟨q, 0, none⟩)])) b2 b3 b4 b) cx cy (cutS s).1 l b2 b3 b4 b)
    (fun C h => ∃ e pos, (cutS s).2 = some (e, pos) ∧ AllZ (allL (.v (.func (.func 14) #[] #[.pointer (some ⟨q, 0, none⟩)])) b2 b3 b4 b) cx cy e pos l b2 b3 b4 C h) (allI_client _ cx cy (cutS s).1 l b2 b3 b4 b) ?_ I0 hq0 (by rintro (e | e | e | e | e) <;> simp_all)).mono ?_
  · intro j vs hj C g hg
    rcases yields_get hj with ⟨t, ht, rfl⟩ | ⟨hj, e, pos, he, rfl⟩
    · exact all_round _ cx cy _ hlen l b2 b3 b4 b ⟨l2, l3, l4, l5, Ne.symm m52, Ne.symm m53, Ne.symm m54⟩ hx hy j t ht C g hg _
    · have hne : ¬ e = 0 := by rcases cutF_err _ _ _ _ e pos he with h1 | h1 <;> omega
      refine AYield.mono (all_round_err _ cx cy _ l b2 b3 b4 b ⟨l2, l3, l4, Ne.symm m32, Ne.symm m42, Ne.symm m43⟩ hx hy j e hne pos C g hg (AllI (allL (.v (.func (.func 14) #[] #[.pointer (some ⟨q, 0, none⟩)])) b2 b3 b4 b) cx cy (cutS s).1 l b2 b3 b4 b (j + 1))) ?_
      rintro bb h' ⟨C', q1, q2, q3⟩
      refine ⟨C', q1, q2, ?_⟩
      cases bb
      · exact ⟨e, pos, he, q3⟩
      · exact q3
  · rintro x h' ⟨C, hor, hF, hC⟩
    have hle : ∀ x o, h x = some o → h' x = some o := fun x o e => hF x o (H0 x o e) (by
      rintro (e' | e' | e' | e' | e') <;> subst e'
      · rw [fl] at e; cases e
      · rw [hb2] at e; cases e
      · rw [f3] at e; cases e
      · rw [f4] at e; cases e
      · rw [f5] at e; cases e)
    rcases hor with ⟨hk, c, h1, h2, h3, h4, h5, h6, _⟩ | ⟨e, pos, he, h1, h2, h3, h4, hne⟩
    · have hy0 : (yields (cutS s)).length = (cutS s).1.length + (match (cutS s).2 with | none => 0 | some _ => 1) := by
        unfold yields
        cases (cutS s).2 <;> simp
      cases he : (cutS s).2 with
      | some ep => rw [hy0, he] at hk; simp only at hk; omega
      | none =>
        rw [hy0, he] at h2
        simp only [Nat.add_zero, List.take_length] at h2
        refine ⟨_, h1, by simp, ?_⟩
        show RRunG _ _ _ _ _ _ _
        have D5 := (AHeap.del_other h' (Ne.symm l5)).trans h2
        have D2 := (AHeap.del_other h' (Ne.symm l2)).trans h4
        have D3 := (AHeap.del_other h' (Ne.symm l3)).trans h5
        have D4 := (AHeap.del_other h' (Ne.symm l4)).trans h6
        have HD : ∀ x o, h x = some o → h'.del l x = some o := fun x o e => (AHeap.del_other h' (AHeap.ne_of fl e)).trans (hle x o e)
        generalize h'.del l = D at D5 D2 D3 D4 HD ⊢
        repeat' (first | refine S.nilK ?_ | (refine S.op rfl ?_; first | refine R.mv rfl ?_ | refine R.fieldAddr rfl ?_ | refine R.fieldAddrR rfl ?_ | refine R.nilCheck rfl ?_ | refine R.nilCheckR rfl ?_ | refine R.loadR rfl rfl ?_ | refine R.load (by decide) rfl (by (repeat' (first | assumption | exact AHeap.set_same _ _ _ | refine AHeap.get_fresh (by assumption) ?_ | refine AHeap.so ?_ ?_ | exact AHeap.n1 (by assumption) | exact AHeap.n2 (by assumption) | exact AHeap.ne_of (by assumption) (by assumption) | exact AHeap.n4 (by assumption) (by assumption) | exact AHeap.n5 (by assumption) | exact AHeap.n6 (by assumption) | exact AHeap.n7 (by assumption) (by assumption) | exact AHeap.n8 (by assumption) (by assumption))); first | done | fail) rfl ?_ | refine S.addI rfl rfl (by omega) ?_ | refine S.subI rfl rfl (by omega) ?_ | refine S.addU rfl rfl ?_ | refine S.subU rfl rfl ?_ | refine S.addUc rfl (by decide) ?_ | refine S.subUc rfl (by decide) ?_ | refine S.arith rfl rfl rfl ?_ | refine R.pickT rfl rfl ?_ | refine R.pickF rfl rfl ?_ | refine R.len rfl ?_ | refine R.lenA rfl ?_ | refine R.lenStr rfl ?_ | refine S.convIU rfl (by omega) ?_ | refine S.convUI rfl (by omega) ?_ | refine R.convInt rfl ?_ | refine R.not rfl ?_ | refine R.eqPtrNil rfl rfl ?_ | refine R.extract rfl rfl ?_ | refine R.field rfl rfl ?_ | refine R.alloc rfl (fun b hb => ?_) | refine R.box rfl rfl rfl (fun b hb => ?_) | refine R.build rfl rfl ?_ | refine R.buildSl rfl rfl rfl (by decide) ?_ | refine R.toStr rfl ?_ | refine R.convStr rfl ?_ | refine R.minmax rfl ?_ | refine R.makeFunc rfl rfl ?_ | (first | refine S.lss rfl rfl (fun hlt => ?_) (fun hlt => by exfalso; omega) | refine S.lss rfl rfl (fun hlt => by exfalso; omega) (fun hlt => ?_) | refine S.lss rfl rfl (fun hlt => ?_) (fun hlt => ?_)) | (first | refine S.gtr rfl rfl (fun hlt => ?_) (fun hlt => by exfalso; omega) | refine S.gtr rfl rfl (fun hlt => by exfalso; omega) (fun hlt => ?_) | refine S.gtr rfl rfl (fun hlt => ?_) (fun hlt => ?_)) | (first | refine S.leq rfl rfl (fun hlt => ?_) (fun hlt => by exfalso; omega) | refine S.leq rfl rfl (fun hlt => by exfalso; omega) (fun hlt => ?_) | refine S.leq rfl rfl (fun hlt => ?_) (fun hlt => ?_)) | (first | refine S.geq rfl rfl (fun hlt => ?_) (fun hlt => by exfalso; omega) | refine S.geq rfl rfl (fun hlt => by exfalso; omega) (fun hlt => ?_) | refine S.geq rfl rfl (fun hlt => ?_) (fun hlt => ?_)) | (first | refine S.eqInt rfl rfl (fun hlt => ?_) (fun hlt => by exfalso; omega) | refine S.eqInt rfl rfl (fun hlt => by exfalso; omega) (fun hlt => ?_) | refine S.eqInt rfl rfl (fun hlt => ?_) (fun hlt => ?_))) | (refine S.op0 rfl ?_; first | refine S.storeS rfl rfl rfl (by rfl) rfl (by first | decide | exact Nat.le_refl _ | exact Nat.le_of_ble_eq_true rfl) ?_ | refine S.store rfl rfl (by (repeat' (first | assumption | exact AHeap.set_same _ _ _ | refine AHeap.get_fresh (by assumption) ?_ | refine AHeap.so ?_ ?_ | exact AHeap.n1 (by assumption) | exact AHeap.n2 (by assumption) | exact AHeap.ne_of (by assumption) (by assumption) | exact AHeap.n4 (by assumption) (by assumption) | exact AHeap.n5 (by assumption) | exact AHeap.n6 (by assumption) | exact AHeap.n7 (by assumption) (by assumption) | exact AHeap.n8 (by assumption) (by assumption))); first | done | fail) rfl rfl rfl (by rfl) rfl ?_) | refine S.skip rfl ?_ | refine S.skip0 rfl ?_ | refine S.seq ?_ | refine S.region ?_ | refine S.regionT ?_ | refine S.tstep ?_ | refine S.talt ?_ ?_ | exact S.tstop | refine S.tdone ?_ | refine S.condT rfl ?_ | refine S.condF rfl ?_ | refine RRun.skip ?_ | refine RRun.block ?_ | refine RRun.inBlock ?_ | refine RRun.exit rfl ?_)
        apply S.ret rr8
        case hx => repeat (first | exact ResAt.nil | apply ResAt.tmp rfl | apply ResAt.cellA rfl (by (repeat' (first | assumption | exact AHeap.set_same _ _ _ | refine AHeap.get_fresh (by assumption) ?_ | refine AHeap.so ?_ ?_ | exact AHeap.n1 (by assumption) | exact AHeap.n2 (by assumption) | exact AHeap.ne_of (by assumption) (by assumption) | exact AHeap.n4 (by assumption) (by assumption) | exact AHeap.n5 (by assumption) | exact AHeap.n6 (by assumption) | exact AHeap.n7 (by assumption) (by assumption) | exact AHeap.n8 (by assumption) (by assumption))); first | done | fail) (by rfl) | apply ResAt.cell1 rfl (by (repeat' (first | assumption | exact AHeap.set_same _ _ _ | refine AHeap.get_fresh (by assumption) ?_ | refine AHeap.so ?_ ?_ | exact AHeap.n1 (by assumption) | exact AHeap.n2 (by assumption) | exact AHeap.ne_of (by assumption) (by assumption) | exact AHeap.n4 (by assumption) (by assumption) | exact AHeap.n5 (by assumption) | exact AHeap.n6 (by assumption) | exact AHeap.n7 (by assumption) (by assumption) | exact AHeap.n8 (by assumption) (by assumption))); first | done | fail) (by rfl))
        have hans : allAns (cutS s) = .tu [toksA (cutS s).1 .ro, i64 0, i64 0] := by simp [allAns, he]
        refine ⟨allAns (cutS s), h, ?_, fun x o e => ⟨o, ?_, .refl o⟩, rfl, rfl⟩
        · rw [hans]; exact .tu (.cons (.toRo _ _ _) (.refl _))
        · simp only [AHeap.set, AHeap.ne_of hb2 e, AHeap.ne_of f3 e, AHeap.ne_of f4 e, if_false]; exact HD x o e
    · refine ⟨_, h1, by simp, ?_⟩
      show RRunG _ _ _ _ _ _ _
      have D2 := (AHeap.del_other h' (Ne.symm l2)).trans h2
      have D3 := (AHeap.del_other h' (Ne.symm l3)).trans h3
      have D4 := (AHeap.del_other h' (Ne.symm l4)).trans h4
      have HD : ∀ x o, h x = some o → h'.del l x = some o := fun x o e => (AHeap.del_other h' (AHeap.ne_of fl e)).trans (hle x o e)
      generalize h'.del l = D at D2 D3 D4 HD ⊢
      apply S.ret rr8
      case hx => repeat (first | exact ResAt.nil | apply ResAt.tmp rfl | apply ResAt.cellA rfl (by (repeat' (first | assumption | exact AHeap.set_same _ _ _ | refine AHeap.get_fresh (by assumption) ?_ | refine AHeap.so ?_ ?_ | exact AHeap.n1 (by assumption) | exact AHeap.n2 (by assumption) | exact AHeap.ne_of (by assumption) (by assumption) | exact AHeap.n4 (by assumption) (by assumption) | exact AHeap.n5 (by assumption) | exact AHeap.n6 (by assumption) | exact AHeap.n7 (by assumption) (by assumption) | exact AHeap.n8 (by assumption) (by assumption))); first | done | fail) (by rfl) | apply ResAt.cell1 rfl (by (repeat' (first | assumption | exact AHeap.set_same _ _ _ | refine AHeap.get_fresh (by assumption) ?_ | refine AHeap.so ?_ ?_ | exact AHeap.n1 (by assumption) | exact AHeap.n2 (by assumption) | exact AHeap.ne_of (by assumption) (by assumption) | exact AHeap.n4 (by assumption) (by assumption) | exact AHeap.n5 (by assumption) | exact AHeap.n6 (by assumption) | exact AHeap.n7 (by assumption) (by assumption) | exact AHeap.n8 (by assumption) (by assumption))); first | done | fail) (by rfl))
      have hans : allAns (cutS s) = .tu [toksA [] .ro, i64 pos, i64 e] := by simp [allAns, he]
      refine ⟨allAns (cutS s), h, ?_, fun x o e => ⟨o, ?_, .refl o⟩, rfl, rfl⟩
      · rw [hans]; exact .tu (.cons (.nilSl 4 (c := .ro) trivial) (.refl _))
      · exact HD x o e

end Go.Proofs.Ytcjcmegkfplnkaa
