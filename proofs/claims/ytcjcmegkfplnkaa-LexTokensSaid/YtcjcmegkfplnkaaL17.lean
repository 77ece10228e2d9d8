import Derived.Test.YtcjcmegkfplnkaaL16
set_option linter.unusedVariables false
set_option linter.unusedSimpArgs false
namespace Go.Proofs.Ytcjcmegkfplnkaa
open Go.Av


abbrev cloQ (q : Nat) : AV := .v (.func (.func 14) #[] #[.pointer (some ⟨q, 0, none⟩)])
theorem lt_range (s : List UInt8) (hs : s.length ≤ 2000) (most e : Int) (pos : Nat) (hend : (cutS s).2 = none ∧ e = 0 ∨ (cutS s).2 = some (e, pos)) (b3 b4 b5 b6 b7 b11 q : Nat) (hd : [b11, b7, b6, b5, b4, b3].Nodup) (hq : q ∉ [b11, b7, b6, b5, b4, b3]) (h H : AHeap)
    (hf : ∀ x ∈ [b11, b7, b6, b5, b4, b3], h x = none) (hH : ∀ x o, h x = some o → H x = some o) (hI : LtHeap (cutS s).1 most e pos b3 b4 b5 b6 b7 b11 0 H) (hq0 : H q = some (.box [str s])) (k : List RT) (Q : AV → AHeap → Prop)
    (hdone : ∀ D, LtHeap (cutS s).1 most e pos b3 b4 b5 b6 b7 b11 (yields (cutS s)).length D → (∀ x o, h x = some o → D x = some o) → RRun Try.prog Try.f3 125 k (Env.get (ltL (cloQ q) b3 b4 b5 b6 b7 b11)) D Q)
    (hret : ∀ D, D b4 = some (.box [bl true]) → (∀ x o, h x = some o → D x = some o) → RRun Try.prog Try.f3 125 (.code .ret :: k) (Env.get (ltL (cloQ q) b3 b4 b5 b6 b7 b11)) D Q) :
    RRun Try.prog Try.f3 125 (.code (.rangeFunc (.tmp 63) #[64, 65] asgLt r3b0) :: k) (Env.get (ltL (cloQ q) b3 b4 b5 b6 b7 b11)) H Q := by
  refine S.rangeFunc rfl (FnIs.v 14 #[] #[.pointer (some ⟨q, 0, none⟩)]) rfl (fun l0 e => by cases e) fun cx cy hx hy l hl => ?_
  have hlen := cutF_len (s.length + 1) s 0 0 (by decide)
  have n3 : b3 ≠ l := AHeap.ne_of hl hI.h3
  have n4 : b4 ≠ l := AHeap.ne_of hl hI.h4
  have n5 : b5 ≠ l := AHeap.ne_of hl hI.h5
  have n6 : b6 ≠ l := AHeap.ne_of hl hI.h6
  have n7 : b7 ≠ l := AHeap.ne_of hl hI.h7
  have n11 : b11 ≠ l := AHeap.ne_of hl hI.h11
  have nq : q ≠ l := AHeap.ne_of hl hq0
  have hd2 : [b11, b7, b6, b5, b4, b3, l].Nodup := by
    have : [b11, b7, b6, b5, b4, b3, l] = [b11, b7, b6, b5, b4, b3] ++ [l] := rfl
    rw [this]
    refine List.nodup_append.2 ⟨hd, by simp, fun a ha b hb e => ?_⟩
    simp only [List.mem_singleton] at hb
    subst hb
    subst e
    simp only [List.mem_cons, List.not_mem_nil, or_false] at ha
    rcases ha with h1 | h1 | h1 | h1 | h1 | h1
    · exact n11 h1.symm
    · exact n7 h1.symm
    · exact n6 h1.symm
    · exact n5 h1.symm
    · exact n4 h1.symm
    · exact n3 h1.symm
  have I0 : LtI (ltL (cloQ q) b3 b4 b5 b6 b7 b11) cx cy (cutS s).1 most e pos l b3 b4 b5 b6 b7 b11 0 (fun x => x = l ∨ x = b3 ∨ x = b4 ∨ x = b5 ∨ x = b6 ∨ x = b7 ∨ x = b11) (H.set l (.loop (loop0 (ltL (cloQ q) b3 b4 b5 b6 b7 b11) 125 #[64, 65] cx cy))) :=
    ⟨AHeap.set_same _ _ _, ⟨(AHeap.set_other _ _ n3).trans hI.h3, (AHeap.set_other _ _ n4).trans hI.h4, (AHeap.set_other _ _ n5).trans hI.h5, (AHeap.set_other _ _ n6).trans hI.h6, (AHeap.set_other _ _ n7).trans hI.h7, (AHeap.set_other _ _ n11).trans hI.h11⟩, fun x => Iff.rfl⟩
  have hq1 : (H.set l (.loop (loop0 (ltL (cloQ q) b3 b4 b5 b6 b7 b11) 125 #[64, 65] cx cy))) q = some (.box [str s]) := (AHeap.set_other _ _ nq).trans hq0
  have hHl : ∀ x o, h x = some o → x ≠ l := fun x o ex => AHeap.ne_of hl (hH x o ex)
  refine (tokens_spec s (by omega) l q _ _ (LtI (ltL (cloQ q) b3 b4 b5 b6 b7 b11) cx cy (cutS s).1 most e pos l b3 b4 b5 b6 b7 b11) (LtZ (ltL (cloQ q) b3 b4 b5 b6 b7 b11) cx cy l b4) (ltI_client _ cx cy (cutS s).1 most e pos l b3 b4 b5 b6 b7 b11) ?_ I0 hq1 ?_).mono ?_
  · intro j vs hj C g hg
    rcases yields_get hj with ⟨t, ht, rfl⟩ | ⟨hj2, e', pos', he, rfl⟩
    · exact lt_round _ cx cy _ hlen most e pos l b3 b4 b5 b6 b7 b11 hd2 hx hy j C g hg t ht
    · have hne : ¬ e' = 0 := by rcases cutF_err _ _ _ _ e' pos' he with h1 | h1 <;> omega
      rcases hend with ⟨h1, _⟩ | h1
      · rw [h1] at he; cases he
      · rw [h1] at he; cases he
        exact lt_round_err _ cx cy _ hlen most e pos l b3 b4 b5 b6 b7 b11 hd2 hx hy j C g hg hne hj2
  · simp only [List.mem_cons, List.not_mem_nil, or_false, not_or] at hq
    rintro (e' | e' | e' | e' | e' | e' | e')
    · exact nq e'
    · exact hq.2.2.2.2.2 e'
    · exact hq.2.2.2.2.1 e'
    · exact hq.2.2.2.1 e'
    · exact hq.2.2.1 e'
    · exact hq.2.1 e'
    · exact hq.1 e'
  · rintro x h' ⟨C, hor, hF, hC⟩
    have hle : ∀ x o, h x = some o → h'.del l x = some o := fun x o ex => by
      rw [AHeap.del_other _ (hHl x o ex)]
      refine hF x o ((AHeap.set_other _ _ (hHl x o ex)).trans (hH x o ex)) ?_
      have nb : ∀ y ∈ [b11, b7, b6, b5, b4, b3], x ≠ y := fun y hy e' => by subst e'; rw [hf x hy] at ex; cases ex
      rintro (e' | e' | e' | e' | e' | e' | e')
      · exact hHl x o ex e'
      · exact nb b3 (by simp) e'
      · exact nb b4 (by simp) e'
      · exact nb b5 (by simp) e'
      · exact nb b6 (by simp) e'
      · exact nb b7 (by simp) e'
      · exact nb b11 (by simp) e'
    rcases hor with ⟨h1, h2, _⟩ | ⟨h1, h2⟩
    · refine ⟨_, h1, by simp, hdone _ ⟨?_, ?_, ?_, ?_, ?_, ?_⟩ hle⟩
      · exact (AHeap.del_other h' n3).trans h2.h3
      · exact (AHeap.del_other h' n4).trans h2.h4
      · exact (AHeap.del_other h' n5).trans h2.h5
      · exact (AHeap.del_other h' n6).trans h2.h6
      · exact (AHeap.del_other h' n7).trans h2.h7
      · exact (AHeap.del_other h' n11).trans h2.h11
    · exact ⟨_, h1, by simp, hret _ ((AHeap.del_other h' n4).trans h2) hle⟩

theorem law_small (s : List UInt8) (most : Int) (hm : Fits most) (hbig : ¬ (s.length ≤ 2000 ∧ 0 ≤ most)) (h : AHeap) : ACalls Try.prog 3 [str s, i64 most] h (fun x h' => x = bl true ∧ h' = h) := by
  obtain ⟨c, hc1, hc2⟩ := res3
  refine ACalls.weak (ACalls.enter Try.func3 hc1 Try.ntmps3 hc2 (Nat.le_of_ble_eq_true rfl) rfl ?_)
  repeat' (first
    | refine S.nilK ?_
    | (refine S.op rfl ?_; first
      | refine R.callQ (by decide) rfl (awake_spec _) ?_
      | refine S.lenS rfl ?_
      | refine R.mv rfl ?_
      | refine R.fieldAddr rfl ?_
      | refine R.fieldAddrR rfl ?_
      | refine R.nilCheck rfl ?_
      | refine R.nilCheckR rfl ?_
      | refine R.loadR rfl rfl ?_
      | refine R.load (by decide) rfl (by (repeat' (first | assumption | exact AHeap.set_same _ _ _ | refine AHeap.get_fresh (by assumption) ?_ | refine AHeap.so ?_ ?_ | exact AHeap.n1 (by assumption) | exact AHeap.n2 (by assumption) | exact AHeap.ne_of (by assumption) (by assumption) | exact AHeap.n4 (by assumption) (by assumption) | exact AHeap.n5 (by assumption) | exact AHeap.n6 (by assumption) | exact AHeap.n7 (by assumption) (by assumption) | exact AHeap.n8 (by assumption) (by assumption))); first | done | fail) rfl ?_
      | refine S.addI rfl rfl (by omega) ?_
      | refine S.subI rfl rfl (by omega) ?_
      | refine S.addU rfl rfl ?_
      | refine S.subU rfl rfl ?_
      | refine S.addUc rfl (by decide) ?_
      | refine S.subUc rfl (by decide) ?_
      | refine S.arith rfl rfl rfl ?_
      | refine R.pickT rfl rfl ?_
      | refine R.pickF rfl rfl ?_
      | refine R.len rfl ?_
      | refine R.lenA rfl ?_
      | refine R.lenStr rfl ?_
      | refine S.convIU rfl (by omega) ?_
      | refine S.convUI rfl (by omega) ?_
      | refine R.convInt rfl ?_
      | refine R.not rfl ?_
      | refine R.eqPtrNil rfl rfl ?_
      | refine R.extract rfl rfl ?_
      | refine R.field rfl rfl ?_
      | refine R.alloc rfl (fun b hb => ?_)
      | refine R.box rfl rfl rfl (fun b hb => ?_)
      | refine R.build rfl rfl ?_
      | refine R.buildSl rfl rfl rfl (by decide) ?_
      | refine R.toStr rfl ?_
      | refine R.convStr rfl ?_
      | refine R.minmax rfl ?_
      | refine R.makeFunc rfl rfl ?_
      | (first | refine S.lss rfl rfl (fun hlt => ?_) (fun hlt => by exfalso; omega) | refine S.lss rfl rfl (fun hlt => by exfalso; omega) (fun hlt => ?_) | refine S.lss rfl rfl (fun hlt => ?_) (fun hlt => ?_))
      | (first | refine S.gtr rfl rfl (fun hlt => ?_) (fun hlt => by exfalso; omega) | refine S.gtr rfl rfl (fun hlt => by exfalso; omega) (fun hlt => ?_) | refine S.gtr rfl rfl (fun hlt => ?_) (fun hlt => ?_))
      | (first | refine S.leq rfl rfl (fun hlt => ?_) (fun hlt => by exfalso; omega) | refine S.leq rfl rfl (fun hlt => by exfalso; omega) (fun hlt => ?_) | refine S.leq rfl rfl (fun hlt => ?_) (fun hlt => ?_))
      | (first | refine S.geq rfl rfl (fun hlt => ?_) (fun hlt => by exfalso; omega) | refine S.geq rfl rfl (fun hlt => by exfalso; omega) (fun hlt => ?_) | refine S.geq rfl rfl (fun hlt => ?_) (fun hlt => ?_))
      | (first | refine S.eqInt rfl rfl (fun hlt => ?_) (fun hlt => by exfalso; omega) | refine S.eqInt rfl rfl (fun hlt => by exfalso; omega) (fun hlt => ?_) | refine S.eqInt rfl rfl (fun hlt => ?_) (fun hlt => ?_)))
    | (refine S.op0 rfl ?_; first | refine S.storeS rfl rfl rfl (by rfl) rfl (by first | decide | exact Nat.le_refl _ | exact Nat.le_of_ble_eq_true rfl) ?_ | refine S.store rfl rfl (by (repeat' (first | assumption | exact AHeap.set_same _ _ _ | refine AHeap.get_fresh (by assumption) ?_ | refine AHeap.so ?_ ?_ | exact AHeap.n1 (by assumption) | exact AHeap.n2 (by assumption) | exact AHeap.ne_of (by assumption) (by assumption) | exact AHeap.n4 (by assumption) (by assumption) | exact AHeap.n5 (by assumption) | exact AHeap.n6 (by assumption) | exact AHeap.n7 (by assumption) (by assumption) | exact AHeap.n8 (by assumption) (by assumption))); first | done | fail) rfl rfl rfl (by rfl) rfl ?_)
    | refine S.skip rfl ?_
    | refine S.skip0 rfl ?_
    | refine S.seq ?_
    | refine S.region ?_
    | refine S.regionT ?_
    | refine S.tstep ?_
    | refine S.talt ?_ ?_
    | exact S.tstop
    | refine S.tdone ?_
    | refine S.condT rfl ?_
    | refine S.condF rfl ?_
    | refine RRun.skip ?_
    | refine RRun.block ?_
    | refine RRun.inBlock ?_
    | refine RRun.exit rfl ?_)
  all_goals
    apply S.ret rr3
    case hx => repeat (first | exact ResAt.nil | apply ResAt.tmp rfl | apply ResAt.cellA rfl (by (repeat' (first | assumption | exact AHeap.set_same _ _ _ | refine AHeap.get_fresh (by assumption) ?_ | refine AHeap.so ?_ ?_ | exact AHeap.n1 (by assumption) | exact AHeap.n2 (by assumption) | exact AHeap.ne_of (by assumption) (by assumption) | exact AHeap.n4 (by assumption) (by assumption) | exact AHeap.n5 (by assumption) | exact AHeap.n6 (by assumption) | exact AHeap.n7 (by assumption) (by assumption) | exact AHeap.n8 (by assumption) (by assumption))); first | done | fail) (by rfl) | apply ResAt.cell1 rfl (by (repeat' (first | assumption | exact AHeap.set_same _ _ _ | refine AHeap.get_fresh (by assumption) ?_ | refine AHeap.so ?_ ?_ | exact AHeap.n1 (by assumption) | exact AHeap.n2 (by assumption) | exact AHeap.ne_of (by assumption) (by assumption) | exact AHeap.n4 (by assumption) (by assumption) | exact AHeap.n5 (by assumption) | exact AHeap.n6 (by assumption) | exact AHeap.n7 (by assumption) (by assumption) | exact AHeap.n8 (by assumption) (by assumption))); first | done | fail) (by rfl))
    exact ⟨_, h, .refl _, (by repeat (first | exact AHeap.le.refl _ | refine AHeap.le.set ?_ _ (by (repeat' (first | assumption | exact AHeap.z1 (by assumption) | exact AHeap.z2 (by assumption) | exact AHeap.z3 (by assumption) | refine AHeap.so ?_ ?_ | exact AHeap.n1 (by assumption) | exact AHeap.n2 (by assumption) | exact AHeap.ne_of (by assumption) (by assumption) | exact AHeap.n4 (by assumption) (by assumption) | exact AHeap.n5 (by assumption) | exact AHeap.n6 (by assumption) | exact AHeap.n7 (by assumption) (by assumption) | exact AHeap.n8 (by assumption) (by assumption))); first | done | fail) | refine AHeap.le.both ?_ _ _)), rfl, rfl⟩

theorem yields_len (r : List Tok × Option (Int × Nat)) : (yields r).length = r.1.length + (match r.2 with | none => 0 | some _ => 1) := by
  unfold yields
  cases r.2 <;> simp

theorem law_none (s : List UInt8) (hs : s.length ≤ 2000) (most : Int) (hm : Fits most) (h0 : 0 ≤ most) (he : (cutS s).2 = none) (h : AHeap) : ACalls Try.prog 3 [str s, i64 most] h (fun x h' => x = bl true ∧ h' = h) := by
  obtain ⟨c, hc1, hc2⟩ := res3
  refine ACalls.weak (ACalls.enter Try.func3 hc1 Try.ntmps3 hc2 (Nat.le_of_ble_eq_true rfl) rfl ?_)
  have hlen : (cutS s).1.length ≤ 400 := cutF_len (s.length + 1) s 0 0 (by decide)
  have hlt : ((cutS s).1.map Tok.cells).length = (cutS s).1.length := by simp
  have c7 := fun h => cut_spec s (by omega) h
  have c8 := fun h => all_spec s (by omega) h
  have c9 := fun h => same_spec' (cutS s).1 (cutS s).1 (by omega) rfl h
  have hyl := yields_len (cutS s)
  unfold cutAns at c7
  unfold allAns at c8
  unfold endOf at c7
  rw [he] at c7 c8 hyl
  replace c7 : ∀ h, ACalls Try.prog 7 [str s] h (fun x h' => x = .tu [toksA (cutS s).1 .ro, i64 0, i64 0] ∧ h' = h) := c7
  replace c8 : ∀ h, ACalls Try.prog 8 [str s] h (fun x h' => x = .tu [toksA (cutS s).1 .ro, i64 0, i64 0] ∧ h' = h) := c8
  replace hyl : (yields (cutS s)).length = (cutS s).1.length := hyl
  unfold toksA at c7 c8 c9
  repeat' (first
    | refine S.nilK ?_
    | (refine S.op rfl ?_; first
      | refine R.callQ (by decide) rfl (awake_spec _) ?_
      | refine S.lenS rfl ?_
      | refine R.callQ (by decide) rfl (c7 _) ?_
      | refine R.callQ (by decide) rfl (c8 _) ?_
      | refine R.callQ (by decide) rfl (c9 _) ?_
      | refine R.mv rfl ?_
      | refine R.fieldAddr rfl ?_
      | refine R.fieldAddrR rfl ?_
      | refine R.nilCheck rfl ?_
      | refine R.nilCheckR rfl ?_
      | refine R.loadR rfl rfl ?_
      | refine R.load (by decide) rfl (by (repeat' (first | assumption | exact AHeap.set_same _ _ _ | refine AHeap.get_fresh (by assumption) ?_ | refine AHeap.so ?_ ?_ | exact AHeap.n1 (by assumption) | exact AHeap.n2 (by assumption) | exact AHeap.ne_of (by assumption) (by assumption) | exact AHeap.n4 (by assumption) (by assumption) | exact AHeap.n5 (by assumption) | exact AHeap.n6 (by assumption) | exact AHeap.n7 (by assumption) (by assumption) | exact AHeap.n8 (by assumption) (by assumption))); first | done | fail) rfl ?_
      | refine S.addI rfl rfl (by omega) ?_
      | refine S.subI rfl rfl (by omega) ?_
      | refine S.addU rfl rfl ?_
      | refine S.subU rfl rfl ?_
      | refine S.addUc rfl (by decide) ?_
      | refine S.subUc rfl (by decide) ?_
      | refine S.arith rfl rfl rfl ?_
      | refine R.pickT rfl rfl ?_
      | refine R.pickF rfl rfl ?_
      | refine R.len rfl ?_
      | refine R.lenA rfl ?_
      | refine R.lenStr rfl ?_
      | refine S.convIU rfl (by omega) ?_
      | refine S.convUI rfl (by omega) ?_
      | refine R.convInt rfl ?_
      | refine R.not rfl ?_
      | refine R.eqPtrNil rfl rfl ?_
      | refine R.extract rfl rfl ?_
      | refine R.field rfl rfl ?_
      | refine R.alloc rfl (fun b hb => ?_)
      | refine R.box rfl rfl rfl (fun b hb => ?_)
      | refine R.build rfl rfl ?_
      | refine R.buildSl rfl rfl rfl (by decide) ?_
      | refine R.toStr rfl ?_
      | refine R.convStr rfl ?_
      | refine R.minmax rfl ?_
      | refine R.makeFunc rfl rfl ?_
      | (first | refine S.lss rfl rfl (fun hlt => ?_) (fun hlt => by exfalso; omega) | refine S.lss rfl rfl (fun hlt => by exfalso; omega) (fun hlt => ?_) | refine S.lss rfl rfl (fun hlt => ?_) (fun hlt => ?_))
      | (first | refine S.gtr rfl rfl (fun hlt => ?_) (fun hlt => by exfalso; omega) | refine S.gtr rfl rfl (fun hlt => by exfalso; omega) (fun hlt => ?_) | refine S.gtr rfl rfl (fun hlt => ?_) (fun hlt => ?_))
      | (first | refine S.leq rfl rfl (fun hlt => ?_) (fun hlt => by exfalso; omega) | refine S.leq rfl rfl (fun hlt => by exfalso; omega) (fun hlt => ?_) | refine S.leq rfl rfl (fun hlt => ?_) (fun hlt => ?_))
      | (first | refine S.geq rfl rfl (fun hlt => ?_) (fun hlt => by exfalso; omega) | refine S.geq rfl rfl (fun hlt => by exfalso; omega) (fun hlt => ?_) | refine S.geq rfl rfl (fun hlt => ?_) (fun hlt => ?_))
      | (first | refine S.eqInt rfl rfl (fun hlt => ?_) (fun hlt => by exfalso; omega) | refine S.eqInt rfl rfl (fun hlt => by exfalso; omega) (fun hlt => ?_) | refine S.eqInt rfl rfl (fun hlt => ?_) (fun hlt => ?_)))
    | (refine S.op0 rfl ?_; first | refine S.storeS rfl rfl rfl (by rfl) rfl (by first | decide | exact Nat.le_refl _ | exact Nat.le_of_ble_eq_true rfl) ?_ | refine S.store rfl rfl (by (repeat' (first | assumption | exact AHeap.set_same _ _ _ | refine AHeap.get_fresh (by assumption) ?_ | refine AHeap.so ?_ ?_ | exact AHeap.n1 (by assumption) | exact AHeap.n2 (by assumption) | exact AHeap.ne_of (by assumption) (by assumption) | exact AHeap.n4 (by assumption) (by assumption) | exact AHeap.n5 (by assumption) | exact AHeap.n6 (by assumption) | exact AHeap.n7 (by assumption) (by assumption) | exact AHeap.n8 (by assumption) (by assumption))); first | done | fail) rfl rfl rfl (by rfl) rfl ?_)
    | refine S.skip rfl ?_
    | refine S.skip0 rfl ?_
    | refine S.seq ?_
    | refine S.region ?_
    | refine S.regionT ?_
    | refine S.tstep ?_
    | refine S.talt ?_ ?_
    | exact S.tstop
    | refine S.tdone ?_
    | refine S.condT rfl ?_
    | refine S.condF rfl ?_
    | refine RRun.skip ?_
    | refine RRun.block ?_
    | refine RRun.inBlock ?_
    | refine RRun.exit rfl ?_)
  rename_i b3 hb3 b4 hb4 _ _ b5 hb5 b6 hb6 b7 hb7 _ _ _
  refine S.op rfl (R.call rfl rfl ((tokens_fn s _).mono ?_))
  rintro x h' ⟨q, hq, rfl, rfl⟩
  repeat' (first
    | refine S.nilK ?_
    | (refine S.op rfl ?_; first
      | refine R.mv rfl ?_
      | refine R.fieldAddr rfl ?_
      | refine R.fieldAddrR rfl ?_
      | refine R.nilCheck rfl ?_
      | refine R.nilCheckR rfl ?_
      | refine R.loadR rfl rfl ?_
      | refine R.load (by decide) rfl (by (repeat' (first | assumption | exact AHeap.set_same _ _ _ | refine AHeap.get_fresh (by assumption) ?_ | refine AHeap.so ?_ ?_ | exact AHeap.n1 (by assumption) | exact AHeap.n2 (by assumption) | exact AHeap.ne_of (by assumption) (by assumption) | exact AHeap.n4 (by assumption) (by assumption) | exact AHeap.n5 (by assumption) | exact AHeap.n6 (by assumption) | exact AHeap.n7 (by assumption) (by assumption) | exact AHeap.n8 (by assumption) (by assumption))); first | done | fail) rfl ?_
      | refine S.addI rfl rfl (by omega) ?_
      | refine S.subI rfl rfl (by omega) ?_
      | refine S.addU rfl rfl ?_
      | refine S.subU rfl rfl ?_
      | refine S.addUc rfl (by decide) ?_
      | refine S.subUc rfl (by decide) ?_
      | refine S.arith rfl rfl rfl ?_
      | refine R.pickT rfl rfl ?_
      | refine R.pickF rfl rfl ?_
      | refine R.len rfl ?_
      | refine R.lenA rfl ?_
      | refine R.lenStr rfl ?_
      | refine S.convIU rfl (by omega) ?_
      | refine S.convUI rfl (by omega) ?_
      | refine R.convInt rfl ?_
      | refine R.not rfl ?_
      | refine R.eqPtrNil rfl rfl ?_
      | refine R.extract rfl rfl ?_
      | refine R.field rfl rfl ?_
      | refine R.alloc rfl (fun b hb => ?_)
      | refine R.box rfl rfl rfl (fun b hb => ?_)
      | refine R.build rfl rfl ?_
      | refine R.buildSl rfl rfl rfl (by decide) ?_
      | refine R.toStr rfl ?_
      | refine R.convStr rfl ?_
      | refine R.minmax rfl ?_
      | refine R.makeFunc rfl rfl ?_
      | (first | refine S.lss rfl rfl (fun hlt => ?_) (fun hlt => by exfalso; omega) | refine S.lss rfl rfl (fun hlt => by exfalso; omega) (fun hlt => ?_) | refine S.lss rfl rfl (fun hlt => ?_) (fun hlt => ?_))
      | (first | refine S.gtr rfl rfl (fun hlt => ?_) (fun hlt => by exfalso; omega) | refine S.gtr rfl rfl (fun hlt => by exfalso; omega) (fun hlt => ?_) | refine S.gtr rfl rfl (fun hlt => ?_) (fun hlt => ?_))
      | (first | refine S.leq rfl rfl (fun hlt => ?_) (fun hlt => by exfalso; omega) | refine S.leq rfl rfl (fun hlt => by exfalso; omega) (fun hlt => ?_) | refine S.leq rfl rfl (fun hlt => ?_) (fun hlt => ?_))
      | (first | refine S.geq rfl rfl (fun hlt => ?_) (fun hlt => by exfalso; omega) | refine S.geq rfl rfl (fun hlt => by exfalso; omega) (fun hlt => ?_) | refine S.geq rfl rfl (fun hlt => ?_) (fun hlt => ?_))
      | (first | refine S.eqInt rfl rfl (fun hlt => ?_) (fun hlt => by exfalso; omega) | refine S.eqInt rfl rfl (fun hlt => by exfalso; omega) (fun hlt => ?_) | refine S.eqInt rfl rfl (fun hlt => ?_) (fun hlt => ?_)))
    | (refine S.op0 rfl ?_; first | refine S.storeS rfl rfl rfl (by rfl) rfl (by first | decide | exact Nat.le_refl _ | exact Nat.le_of_ble_eq_true rfl) ?_ | refine S.store rfl rfl (by (repeat' (first | assumption | exact AHeap.set_same _ _ _ | refine AHeap.get_fresh (by assumption) ?_ | refine AHeap.so ?_ ?_ | exact AHeap.n1 (by assumption) | exact AHeap.n2 (by assumption) | exact AHeap.ne_of (by assumption) (by assumption) | exact AHeap.n4 (by assumption) (by assumption) | exact AHeap.n5 (by assumption) | exact AHeap.n6 (by assumption) | exact AHeap.n7 (by assumption) (by assumption) | exact AHeap.n8 (by assumption) (by assumption))); first | done | fail) rfl rfl rfl (by rfl) rfl ?_)
    | refine S.skip rfl ?_
    | refine S.skip0 rfl ?_
    | refine S.seq ?_
    | refine S.region ?_
    | refine S.regionT ?_
    | refine S.tstep ?_
    | refine S.talt ?_ ?_
    | exact S.tstop
    | refine S.tdone ?_
    | refine S.condT rfl ?_
    | refine S.condF rfl ?_
    | refine RRun.skip ?_
    | refine RRun.block ?_
    | refine RRun.inBlock ?_
    | refine RRun.exit rfl ?_)
  refine S.keep [63, 3, 4, 5, 6, 7, 11] rfl ?_
  obtain ⟨m43, k4⟩ := AHeap.fresh_set hb4
  obtain ⟨m54, tt⟩ := AHeap.fresh_set hb5
  obtain ⟨m53, k5⟩ := AHeap.fresh_set tt
  obtain ⟨m65, tt⟩ := AHeap.fresh_set hb6
  obtain ⟨m64, tt⟩ := AHeap.fresh_set tt
  obtain ⟨m63, k6⟩ := AHeap.fresh_set tt
  obtain ⟨m76, tt⟩ := AHeap.fresh_set hb7
  obtain ⟨m75, tt⟩ := AHeap.fresh_set tt
  obtain ⟨m74, tt⟩ := AHeap.fresh_set tt
  obtain ⟨m73, k7⟩ := AHeap.fresh_set tt
  obtain ⟨a7, tt⟩ := AHeap.fresh_set hb
  obtain ⟨a6, tt⟩ := AHeap.fresh_set tt
  obtain ⟨a5, tt⟩ := AHeap.fresh_set tt
  obtain ⟨_, tt⟩ := AHeap.fresh_set tt
  obtain ⟨_, tt⟩ := AHeap.fresh_set tt
  obtain ⟨_, tt⟩ := AHeap.fresh_set tt
  obtain ⟨a4, tt⟩ := AHeap.fresh_set tt
  obtain ⟨a3, k11⟩ := AHeap.fresh_set tt
  obtain ⟨c11, tt⟩ := AHeap.fresh_set hq
  obtain ⟨c7, tt⟩ := AHeap.fresh_set tt
  obtain ⟨c6, tt⟩ := AHeap.fresh_set tt
  obtain ⟨c5, tt⟩ := AHeap.fresh_set tt
  obtain ⟨_, tt⟩ := AHeap.fresh_set tt
  obtain ⟨_, tt⟩ := AHeap.fresh_set tt
  obtain ⟨_, tt⟩ := AHeap.fresh_set tt
  obtain ⟨c4, tt⟩ := AHeap.fresh_set tt
  obtain ⟨c3, kq⟩ := AHeap.fresh_set tt
  refine lt_range s hs most 0 0 (.inl ⟨he, rfl⟩) b3 b4 b5 b6 b7 b q (by simp [m43, m54, m53, m65, m64, m63, m76, m75, m74, m73, a7, a6, a5, a4, a3]) (by simp [c11, c7, c6, c5, c4, c3]) h _ (by simp [hb3, k4, k5, k6, k7, k11]) ?_ ⟨?_, ?_, ?_, ?_, ?_, ?_⟩ ?_ _ _ ?_ ?_
  · intro x o ex
    have x3 : x ≠ b3 := AHeap.ne_of hb3 ex
    have x4 : x ≠ b4 := AHeap.ne_of k4 ex
    have x5 : x ≠ b5 := AHeap.ne_of k5 ex
    have x6 : x ≠ b6 := AHeap.ne_of k6 ex
    have x7 : x ≠ b7 := AHeap.ne_of k7 ex
    have x11 : x ≠ b := AHeap.ne_of k11 ex
    have xq : x ≠ q := AHeap.ne_of kq ex
    simp only [AHeap.set, x3, x4, x5, x6, x7, x11, xq, if_false]; exact ex
  · simp [AHeap.set, Ne.symm m43, Ne.symm m53, Ne.symm m63, Ne.symm m73, Ne.symm a3, Ne.symm c3]
  · simp [AHeap.set, Ne.symm m54, Ne.symm m64, Ne.symm m74, Ne.symm a4, Ne.symm c4]
  · simp [AHeap.set, Ne.symm m65, Ne.symm m75, Ne.symm a5, Ne.symm c5, over, toksA]
  · simp [AHeap.set, Ne.symm m76, Ne.symm a6, Ne.symm c6, over]
  · simp [AHeap.set, Ne.symm a7, Ne.symm c7, over]
  · simp [AHeap.set, Ne.symm c11, over]
  · exact AHeap.set_same _ _ _
  · intro D hD hle
    clear m43 m54 m53 m65 m64 m63 m76 m75 m74 m73 a7 a6 a5 a4 a3 c11 c7 c6 c5 c4 c3
    obtain ⟨q3, q4, q5, q6, q7, q11⟩ := hD
    rw [hyl] at q11
    unfold toksA at q5
    repeat' (first
      | refine S.nilK ?_
      | (refine S.op rfl ?_; first
        | refine S.eqIntSame rfl rfl ?_
        | refine R.mv rfl ?_
        | refine R.fieldAddr rfl ?_
        | refine R.fieldAddrR rfl ?_
        | refine R.nilCheck rfl ?_
        | refine R.nilCheckR rfl ?_
        | refine R.loadR rfl rfl ?_
        | refine R.load (by decide) rfl (by (repeat' (first | assumption | exact AHeap.set_same _ _ _ | refine AHeap.get_fresh (by assumption) ?_ | refine AHeap.so ?_ ?_ | exact AHeap.n1 (by assumption) | exact AHeap.n2 (by assumption) | exact AHeap.ne_of (by assumption) (by assumption) | exact AHeap.n4 (by assumption) (by assumption) | exact AHeap.n5 (by assumption) | exact AHeap.n6 (by assumption) | exact AHeap.n7 (by assumption) (by assumption) | exact AHeap.n8 (by assumption) (by assumption))); first | done | fail) rfl ?_
        | refine S.addI rfl rfl (by omega) ?_
        | refine S.subI rfl rfl (by omega) ?_
        | refine S.addU rfl rfl ?_
        | refine S.subU rfl rfl ?_
        | refine S.addUc rfl (by decide) ?_
        | refine S.subUc rfl (by decide) ?_
        | refine S.arith rfl rfl rfl ?_
        | refine R.pickT rfl rfl ?_
        | refine R.pickF rfl rfl ?_
        | refine R.len rfl ?_
        | refine R.lenA rfl ?_
        | refine R.lenStr rfl ?_
        | refine S.convIU rfl (by omega) ?_
        | refine S.convUI rfl (by omega) ?_
        | refine R.convInt rfl ?_
        | refine R.not rfl ?_
        | refine R.eqPtrNil rfl rfl ?_
        | refine R.extract rfl rfl ?_
        | refine R.field rfl rfl ?_
        | refine R.alloc rfl (fun b hb => ?_)
        | refine R.box rfl rfl rfl (fun b hb => ?_)
        | refine R.build rfl rfl ?_
        | refine R.buildSl rfl rfl rfl (by decide) ?_
        | refine R.toStr rfl ?_
        | refine R.convStr rfl ?_
        | refine R.minmax rfl ?_
        | refine R.makeFunc rfl rfl ?_
        | (first | refine S.lss rfl rfl (fun hlt => ?_) (fun hlt => by exfalso; omega) | refine S.lss rfl rfl (fun hlt => by exfalso; omega) (fun hlt => ?_) | refine S.lss rfl rfl (fun hlt => ?_) (fun hlt => ?_))
        | (first | refine S.gtr rfl rfl (fun hlt => ?_) (fun hlt => by exfalso; omega) | refine S.gtr rfl rfl (fun hlt => by exfalso; omega) (fun hlt => ?_) | refine S.gtr rfl rfl (fun hlt => ?_) (fun hlt => ?_))
        | (first | refine S.leq rfl rfl (fun hlt => ?_) (fun hlt => by exfalso; omega) | refine S.leq rfl rfl (fun hlt => by exfalso; omega) (fun hlt => ?_) | refine S.leq rfl rfl (fun hlt => ?_) (fun hlt => ?_))
        | (first | refine S.geq rfl rfl (fun hlt => ?_) (fun hlt => by exfalso; omega) | refine S.geq rfl rfl (fun hlt => by exfalso; omega) (fun hlt => ?_) | refine S.geq rfl rfl (fun hlt => ?_) (fun hlt => ?_))
        | (first | refine S.eqInt rfl rfl (fun hlt => ?_) (fun hlt => by exfalso; omega) | refine S.eqInt rfl rfl (fun hlt => by exfalso; omega) (fun hlt => ?_) | refine S.eqInt rfl rfl (fun hlt => ?_) (fun hlt => ?_)))
      | (refine S.op0 rfl ?_; first | refine S.storeS rfl rfl rfl (by rfl) rfl (by first | decide | exact Nat.le_refl _ | exact Nat.le_of_ble_eq_true rfl) ?_ | refine S.store rfl rfl (by (repeat' (first | assumption | exact AHeap.set_same _ _ _ | refine AHeap.get_fresh (by assumption) ?_ | refine AHeap.so ?_ ?_ | exact AHeap.n1 (by assumption) | exact AHeap.n2 (by assumption) | exact AHeap.ne_of (by assumption) (by assumption) | exact AHeap.n4 (by assumption) (by assumption) | exact AHeap.n5 (by assumption) | exact AHeap.n6 (by assumption) | exact AHeap.n7 (by assumption) (by assumption) | exact AHeap.n8 (by assumption) (by assumption))); first | done | fail) rfl rfl rfl (by rfl) rfl ?_)
      | refine S.skip rfl ?_
      | refine S.skip0 rfl ?_
      | refine S.seq ?_
      | refine S.region ?_
      | refine S.regionT ?_
      | refine S.tstep ?_
      | refine S.talt ?_ ?_
      | exact S.tstop
      | refine S.tdone ?_
      | refine S.condT rfl ?_
      | refine S.condF rfl ?_
      | refine RRun.skip ?_
      | refine RRun.block ?_
      | refine RRun.inBlock ?_
      | refine RRun.exit rfl ?_)
    apply S.ret rr3
    case hx => repeat (first | exact ResAt.nil | apply ResAt.tmp rfl | apply ResAt.cellA rfl (by (repeat' (first | assumption | exact AHeap.set_same _ _ _ | refine AHeap.get_fresh (by assumption) ?_ | refine AHeap.so ?_ ?_ | exact AHeap.n1 (by assumption) | exact AHeap.n2 (by assumption) | exact AHeap.ne_of (by assumption) (by assumption) | exact AHeap.n4 (by assumption) (by assumption) | exact AHeap.n5 (by assumption) | exact AHeap.n6 (by assumption) | exact AHeap.n7 (by assumption) (by assumption) | exact AHeap.n8 (by assumption) (by assumption))); first | done | fail) (by rfl) | apply ResAt.cell1 rfl (by (repeat' (first | assumption | exact AHeap.set_same _ _ _ | refine AHeap.get_fresh (by assumption) ?_ | refine AHeap.so ?_ ?_ | exact AHeap.n1 (by assumption) | exact AHeap.n2 (by assumption) | exact AHeap.ne_of (by assumption) (by assumption) | exact AHeap.n4 (by assumption) (by assumption) | exact AHeap.n5 (by assumption) | exact AHeap.n6 (by assumption) | exact AHeap.n7 (by assumption) (by assumption) | exact AHeap.n8 (by assumption) (by assumption))); first | done | fail) (by rfl))
    refine ⟨_, h, .refl _, fun x o ex => ⟨o, ?_, .refl o⟩, rfl, rfl⟩
    have : x ≠ b4 := fun e' => by subst e'; rw [k4] at ex; cases ex
    simp only [AHeap.set, this, if_false]; exact hle x o ex
  · intro D hD hle
    apply S.ret rr3
    case hx => repeat (first | exact ResAt.nil | apply ResAt.tmp rfl | apply ResAt.cellA rfl (by (repeat' (first | assumption | exact AHeap.set_same _ _ _ | refine AHeap.get_fresh (by assumption) ?_ | refine AHeap.so ?_ ?_ | exact AHeap.n1 (by assumption) | exact AHeap.n2 (by assumption) | exact AHeap.ne_of (by assumption) (by assumption) | exact AHeap.n4 (by assumption) (by assumption) | exact AHeap.n5 (by assumption) | exact AHeap.n6 (by assumption) | exact AHeap.n7 (by assumption) (by assumption) | exact AHeap.n8 (by assumption) (by assumption))); first | done | fail) (by rfl) | apply ResAt.cell1 rfl (by (repeat' (first | assumption | exact AHeap.set_same _ _ _ | refine AHeap.get_fresh (by assumption) ?_ | refine AHeap.so ?_ ?_ | exact AHeap.n1 (by assumption) | exact AHeap.n2 (by assumption) | exact AHeap.ne_of (by assumption) (by assumption) | exact AHeap.n4 (by assumption) (by assumption) | exact AHeap.n5 (by assumption) | exact AHeap.n6 (by assumption) | exact AHeap.n7 (by assumption) (by assumption) | exact AHeap.n8 (by assumption) (by assumption))); first | done | fail) (by rfl))
    exact ⟨_, h, .refl _, fun x o ex => ⟨o, hle x o ex, .refl o⟩, rfl, rfl⟩

theorem law_err (s : List UInt8) (hs : s.length ≤ 2000) (most : Int) (hm : Fits most) (h0 : 0 ≤ most) (e : Int) (pos : Nat) (he : (cutS s).2 = some (e, pos)) (h : AHeap) : ACalls Try.prog 3 [str s, i64 most] h (fun x h' => x = bl true ∧ h' = h) := by
  obtain ⟨c, hc1, hc2⟩ := res3
  refine ACalls.weak (ACalls.enter Try.func3 hc1 Try.ntmps3 hc2 (Nat.le_of_ble_eq_true rfl) rfl ?_)
  have hlen : (cutS s).1.length ≤ 400 := cutF_len (s.length + 1) s 0 0 (by decide)
  have hlt : ((cutS s).1.map Tok.cells).length = (cutS s).1.length := by simp
  have c7 := fun h => cut_spec s (by omega) h
  have c8 := fun h => all_spec s (by omega) h
  have c9 := fun h => same_spec' (cutS s).1 (cutS s).1 (by omega) rfl h
  have hyl := yields_len (cutS s)
  unfold cutAns at c7
  unfold allAns at c8
  unfold endOf at c7
  have hne : ¬ e = 0 := by rcases cutF_err _ _ _ _ e pos he with h1 | h1 <;> omega
  rw [he] at c7 c8 hyl
  replace c7 : ∀ h, ACalls Try.prog 7 [str s] h (fun x h' => x = .tu [toksA (cutS s).1 .ro, i64 pos, i64 e] ∧ h' = h) := c7
  replace c8 : ∀ h, ACalls Try.prog 8 [str s] h (fun x h' => x = .tu [.sl 4 [] .ro, i64 pos, i64 e] ∧ h' = h) := c8
  replace hyl : (yields (cutS s)).length = (cutS s).1.length + 1 := hyl
  unfold toksA at c7
  repeat' (first
    | refine S.nilK ?_
    | (refine S.op rfl ?_; first
      | refine R.callQ (by decide) rfl (awake_spec _) ?_
      | refine S.lenS rfl ?_
      | refine R.callQ (by decide) rfl (c7 _) ?_
      | refine R.callQ (by decide) rfl (c8 _) ?_
      | refine S.eqIntSame rfl rfl ?_
      | refine R.mv rfl ?_
      | refine R.fieldAddr rfl ?_
      | refine R.fieldAddrR rfl ?_
      | refine R.nilCheck rfl ?_
      | refine R.nilCheckR rfl ?_
      | refine R.loadR rfl rfl ?_
      | refine R.load (by decide) rfl (by (repeat' (first | assumption | exact AHeap.set_same _ _ _ | refine AHeap.get_fresh (by assumption) ?_ | refine AHeap.so ?_ ?_ | exact AHeap.n1 (by assumption) | exact AHeap.n2 (by assumption) | exact AHeap.ne_of (by assumption) (by assumption) | exact AHeap.n4 (by assumption) (by assumption) | exact AHeap.n5 (by assumption) | exact AHeap.n6 (by assumption) | exact AHeap.n7 (by assumption) (by assumption) | exact AHeap.n8 (by assumption) (by assumption))); first | done | fail) rfl ?_
      | refine S.addI rfl rfl (by omega) ?_
      | refine S.subI rfl rfl (by omega) ?_
      | refine S.addU rfl rfl ?_
      | refine S.subU rfl rfl ?_
      | refine S.addUc rfl (by decide) ?_
      | refine S.subUc rfl (by decide) ?_
      | refine S.arith rfl rfl rfl ?_
      | refine R.pickT rfl rfl ?_
      | refine R.pickF rfl rfl ?_
      | refine R.len rfl ?_
      | refine R.lenA rfl ?_
      | refine R.lenStr rfl ?_
      | refine S.convIU rfl (by omega) ?_
      | refine S.convUI rfl (by omega) ?_
      | refine R.convInt rfl ?_
      | refine R.not rfl ?_
      | refine R.eqPtrNil rfl rfl ?_
      | refine R.extract rfl rfl ?_
      | refine R.field rfl rfl ?_
      | refine R.alloc rfl (fun b hb => ?_)
      | refine R.box rfl rfl rfl (fun b hb => ?_)
      | refine R.build rfl rfl ?_
      | refine R.buildSl rfl rfl rfl (by decide) ?_
      | refine R.toStr rfl ?_
      | refine R.convStr rfl ?_
      | refine R.minmax rfl ?_
      | refine R.makeFunc rfl rfl ?_
      | (first | refine S.lss rfl rfl (fun hlt => ?_) (fun hlt => by exfalso; omega) | refine S.lss rfl rfl (fun hlt => by exfalso; omega) (fun hlt => ?_) | refine S.lss rfl rfl (fun hlt => ?_) (fun hlt => ?_))
      | (first | refine S.gtr rfl rfl (fun hlt => ?_) (fun hlt => by exfalso; omega) | refine S.gtr rfl rfl (fun hlt => by exfalso; omega) (fun hlt => ?_) | refine S.gtr rfl rfl (fun hlt => ?_) (fun hlt => ?_))
      | (first | refine S.leq rfl rfl (fun hlt => ?_) (fun hlt => by exfalso; omega) | refine S.leq rfl rfl (fun hlt => by exfalso; omega) (fun hlt => ?_) | refine S.leq rfl rfl (fun hlt => ?_) (fun hlt => ?_))
      | (first | refine S.geq rfl rfl (fun hlt => ?_) (fun hlt => by exfalso; omega) | refine S.geq rfl rfl (fun hlt => by exfalso; omega) (fun hlt => ?_) | refine S.geq rfl rfl (fun hlt => ?_) (fun hlt => ?_))
      | (first | refine S.eqInt rfl rfl (fun hlt => ?_) (fun hlt => by exfalso; omega) | refine S.eqInt rfl rfl (fun hlt => by exfalso; omega) (fun hlt => ?_) | refine S.eqInt rfl rfl (fun hlt => ?_) (fun hlt => ?_)))
    | (refine S.op0 rfl ?_; first | refine S.storeS rfl rfl rfl (by rfl) rfl (by first | decide | exact Nat.le_refl _ | exact Nat.le_of_ble_eq_true rfl) ?_ | refine S.store rfl rfl (by (repeat' (first | assumption | exact AHeap.set_same _ _ _ | refine AHeap.get_fresh (by assumption) ?_ | refine AHeap.so ?_ ?_ | exact AHeap.n1 (by assumption) | exact AHeap.n2 (by assumption) | exact AHeap.ne_of (by assumption) (by assumption) | exact AHeap.n4 (by assumption) (by assumption) | exact AHeap.n5 (by assumption) | exact AHeap.n6 (by assumption) | exact AHeap.n7 (by assumption) (by assumption) | exact AHeap.n8 (by assumption) (by assumption))); first | done | fail) rfl rfl rfl (by rfl) rfl ?_)
    | refine S.skip rfl ?_
    | refine S.skip0 rfl ?_
    | refine S.seq ?_
    | refine S.region ?_
    | refine S.regionT ?_
    | refine S.tstep ?_
    | refine S.talt ?_ ?_
    | exact S.tstop
    | refine S.tdone ?_
    | refine S.condT rfl ?_
    | refine S.condF rfl ?_
    | refine RRun.skip ?_
    | refine RRun.block ?_
    | refine RRun.inBlock ?_
    | refine RRun.exit rfl ?_)
  rename_i b3 hb3 b4 hb4 _ _ b5 hb5 b6 hb6 b7 hb7 _
  refine S.op rfl (R.call rfl rfl ((tokens_fn s _).mono ?_))
  rintro x h' ⟨q, hq, rfl, rfl⟩
  repeat' (first
    | refine S.nilK ?_
    | (refine S.op rfl ?_; first
      | refine R.mv rfl ?_
      | refine R.fieldAddr rfl ?_
      | refine R.fieldAddrR rfl ?_
      | refine R.nilCheck rfl ?_
      | refine R.nilCheckR rfl ?_
      | refine R.loadR rfl rfl ?_
      | refine R.load (by decide) rfl (by (repeat' (first | assumption | exact AHeap.set_same _ _ _ | refine AHeap.get_fresh (by assumption) ?_ | refine AHeap.so ?_ ?_ | exact AHeap.n1 (by assumption) | exact AHeap.n2 (by assumption) | exact AHeap.ne_of (by assumption) (by assumption) | exact AHeap.n4 (by assumption) (by assumption) | exact AHeap.n5 (by assumption) | exact AHeap.n6 (by assumption) | exact AHeap.n7 (by assumption) (by assumption) | exact AHeap.n8 (by assumption) (by assumption))); first | done | fail) rfl ?_
      | refine S.addI rfl rfl (by omega) ?_
      | refine S.subI rfl rfl (by omega) ?_
      | refine S.addU rfl rfl ?_
      | refine S.subU rfl rfl ?_
      | refine S.addUc rfl (by decide) ?_
      | refine S.subUc rfl (by decide) ?_
      | refine S.arith rfl rfl rfl ?_
      | refine R.pickT rfl rfl ?_
      | refine R.pickF rfl rfl ?_
      | refine R.len rfl ?_
      | refine R.lenA rfl ?_
      | refine R.lenStr rfl ?_
      | refine S.convIU rfl (by omega) ?_
      | refine S.convUI rfl (by omega) ?_
      | refine R.convInt rfl ?_
      | refine R.not rfl ?_
      | refine R.eqPtrNil rfl rfl ?_
      | refine R.extract rfl rfl ?_
      | refine R.field rfl rfl ?_
      | refine R.alloc rfl (fun b hb => ?_)
      | refine R.box rfl rfl rfl (fun b hb => ?_)
      | refine R.build rfl rfl ?_
      | refine R.buildSl rfl rfl rfl (by decide) ?_
      | refine R.toStr rfl ?_
      | refine R.convStr rfl ?_
      | refine R.minmax rfl ?_
      | refine R.makeFunc rfl rfl ?_
      | (first | refine S.lss rfl rfl (fun hlt => ?_) (fun hlt => by exfalso; omega) | refine S.lss rfl rfl (fun hlt => by exfalso; omega) (fun hlt => ?_) | refine S.lss rfl rfl (fun hlt => ?_) (fun hlt => ?_))
      | (first | refine S.gtr rfl rfl (fun hlt => ?_) (fun hlt => by exfalso; omega) | refine S.gtr rfl rfl (fun hlt => by exfalso; omega) (fun hlt => ?_) | refine S.gtr rfl rfl (fun hlt => ?_) (fun hlt => ?_))
      | (first | refine S.leq rfl rfl (fun hlt => ?_) (fun hlt => by exfalso; omega) | refine S.leq rfl rfl (fun hlt => by exfalso; omega) (fun hlt => ?_) | refine S.leq rfl rfl (fun hlt => ?_) (fun hlt => ?_))
      | (first | refine S.geq rfl rfl (fun hlt => ?_) (fun hlt => by exfalso; omega) | refine S.geq rfl rfl (fun hlt => by exfalso; omega) (fun hlt => ?_) | refine S.geq rfl rfl (fun hlt => ?_) (fun hlt => ?_))
      | (first | refine S.eqInt rfl rfl (fun hlt => ?_) (fun hlt => by exfalso; omega) | refine S.eqInt rfl rfl (fun hlt => by exfalso; omega) (fun hlt => ?_) | refine S.eqInt rfl rfl (fun hlt => ?_) (fun hlt => ?_)))
    | (refine S.op0 rfl ?_; first | refine S.storeS rfl rfl rfl (by rfl) rfl (by first | decide | exact Nat.le_refl _ | exact Nat.le_of_ble_eq_true rfl) ?_ | refine S.store rfl rfl (by (repeat' (first | assumption | exact AHeap.set_same _ _ _ | refine AHeap.get_fresh (by assumption) ?_ | refine AHeap.so ?_ ?_ | exact AHeap.n1 (by assumption) | exact AHeap.n2 (by assumption) | exact AHeap.ne_of (by assumption) (by assumption) | exact AHeap.n4 (by assumption) (by assumption) | exact AHeap.n5 (by assumption) | exact AHeap.n6 (by assumption) | exact AHeap.n7 (by assumption) (by assumption) | exact AHeap.n8 (by assumption) (by assumption))); first | done | fail) rfl rfl rfl (by rfl) rfl ?_)
    | refine S.skip rfl ?_
    | refine S.skip0 rfl ?_
    | refine S.seq ?_
    | refine S.region ?_
    | refine S.regionT ?_
    | refine S.tstep ?_
    | refine S.talt ?_ ?_
    | exact S.tstop
    | refine S.tdone ?_
    | refine S.condT rfl ?_
    | refine S.condF rfl ?_
    | refine RRun.skip ?_
    | refine RRun.block ?_
    | refine RRun.inBlock ?_
    | refine RRun.exit rfl ?_)
  refine S.keep [63, 3, 4, 5, 6, 7, 11] rfl ?_
  obtain ⟨m43, k4⟩ := AHeap.fresh_set hb4
  obtain ⟨m54, tt⟩ := AHeap.fresh_set hb5
  obtain ⟨m53, k5⟩ := AHeap.fresh_set tt
  obtain ⟨m65, tt⟩ := AHeap.fresh_set hb6
  obtain ⟨m64, tt⟩ := AHeap.fresh_set tt
  obtain ⟨m63, k6⟩ := AHeap.fresh_set tt
  obtain ⟨m76, tt⟩ := AHeap.fresh_set hb7
  obtain ⟨m75, tt⟩ := AHeap.fresh_set tt
  obtain ⟨m74, tt⟩ := AHeap.fresh_set tt
  obtain ⟨m73, k7⟩ := AHeap.fresh_set tt
  obtain ⟨a7, tt⟩ := AHeap.fresh_set hb
  obtain ⟨a6, tt⟩ := AHeap.fresh_set tt
  obtain ⟨a5, tt⟩ := AHeap.fresh_set tt
  obtain ⟨_, tt⟩ := AHeap.fresh_set tt
  obtain ⟨_, tt⟩ := AHeap.fresh_set tt
  obtain ⟨_, tt⟩ := AHeap.fresh_set tt
  obtain ⟨a4, tt⟩ := AHeap.fresh_set tt
  obtain ⟨a3, k11⟩ := AHeap.fresh_set tt
  obtain ⟨c11, tt⟩ := AHeap.fresh_set hq
  obtain ⟨c7, tt⟩ := AHeap.fresh_set tt
  obtain ⟨c6, tt⟩ := AHeap.fresh_set tt
  obtain ⟨c5, tt⟩ := AHeap.fresh_set tt
  obtain ⟨_, tt⟩ := AHeap.fresh_set tt
  obtain ⟨_, tt⟩ := AHeap.fresh_set tt
  obtain ⟨_, tt⟩ := AHeap.fresh_set tt
  obtain ⟨c4, tt⟩ := AHeap.fresh_set tt
  obtain ⟨c3, kq⟩ := AHeap.fresh_set tt
  refine lt_range s hs most e pos (.inr he) b3 b4 b5 b6 b7 b q (by simp [m43, m54, m53, m65, m64, m63, m76, m75, m74, m73, a7, a6, a5, a4, a3]) (by simp [c11, c7, c6, c5, c4, c3]) h _ (by simp [hb3, k4, k5, k6, k7, k11]) ?_ ⟨?_, ?_, ?_, ?_, ?_, ?_⟩ ?_ _ _ ?_ ?_
  · intro x o ex
    have x3 : x ≠ b3 := AHeap.ne_of hb3 ex
    have x4 : x ≠ b4 := AHeap.ne_of k4 ex
    have x5 : x ≠ b5 := AHeap.ne_of k5 ex
    have x6 : x ≠ b6 := AHeap.ne_of k6 ex
    have x7 : x ≠ b7 := AHeap.ne_of k7 ex
    have x11 : x ≠ b := AHeap.ne_of k11 ex
    have xq : x ≠ q := AHeap.ne_of kq ex
    simp only [AHeap.set, x3, x4, x5, x6, x7, x11, xq, if_false]; exact ex
  · simp [AHeap.set, Ne.symm m43, Ne.symm m53, Ne.symm m63, Ne.symm m73, Ne.symm a3, Ne.symm c3]
  · simp [AHeap.set, Ne.symm m54, Ne.symm m64, Ne.symm m74, Ne.symm a4, Ne.symm c4]
  · simp [AHeap.set, Ne.symm m65, Ne.symm m75, Ne.symm a5, Ne.symm c5, over, toksA]
  · simp [AHeap.set, Ne.symm m76, Ne.symm a6, Ne.symm c6, over]
  · simp [AHeap.set, Ne.symm a7, Ne.symm c7, over]
  · simp [AHeap.set, Ne.symm c11, over]
  · exact AHeap.set_same _ _ _
  · intro D hD hle
    clear m43 m54 m53 m65 m64 m63 m76 m75 m74 m73 a7 a6 a5 a4 a3 c11 c7 c6 c5 c4 c3
    obtain ⟨q3, q4, q5, q6, q7, q11⟩ := hD
    rw [hyl] at q11
    unfold toksA at q5
    repeat' (first
      | refine S.nilK ?_
      | (refine S.op rfl ?_; first
        | refine S.eqIntSame rfl rfl ?_
        | refine R.mv rfl ?_
        | refine R.fieldAddr rfl ?_
        | refine R.fieldAddrR rfl ?_
        | refine R.nilCheck rfl ?_
        | refine R.nilCheckR rfl ?_
        | refine R.loadR rfl rfl ?_
        | refine R.load (by decide) rfl (by (repeat' (first | assumption | exact AHeap.set_same _ _ _ | refine AHeap.get_fresh (by assumption) ?_ | refine AHeap.so ?_ ?_ | exact AHeap.n1 (by assumption) | exact AHeap.n2 (by assumption) | exact AHeap.ne_of (by assumption) (by assumption) | exact AHeap.n4 (by assumption) (by assumption) | exact AHeap.n5 (by assumption) | exact AHeap.n6 (by assumption) | exact AHeap.n7 (by assumption) (by assumption) | exact AHeap.n8 (by assumption) (by assumption))); first | done | fail) rfl ?_
        | refine S.addI rfl rfl (by omega) ?_
        | refine S.subI rfl rfl (by omega) ?_
        | refine S.addU rfl rfl ?_
        | refine S.subU rfl rfl ?_
        | refine S.addUc rfl (by decide) ?_
        | refine S.subUc rfl (by decide) ?_
        | refine S.arith rfl rfl rfl ?_
        | refine R.pickT rfl rfl ?_
        | refine R.pickF rfl rfl ?_
        | refine R.len rfl ?_
        | refine R.lenA rfl ?_
        | refine R.lenStr rfl ?_
        | refine S.convIU rfl (by omega) ?_
        | refine S.convUI rfl (by omega) ?_
        | refine R.convInt rfl ?_
        | refine R.not rfl ?_
        | refine R.eqPtrNil rfl rfl ?_
        | refine R.extract rfl rfl ?_
        | refine R.field rfl rfl ?_
        | refine R.alloc rfl (fun b hb => ?_)
        | refine R.box rfl rfl rfl (fun b hb => ?_)
        | refine R.build rfl rfl ?_
        | refine R.buildSl rfl rfl rfl (by decide) ?_
        | refine R.toStr rfl ?_
        | refine R.convStr rfl ?_
        | refine R.minmax rfl ?_
        | refine R.makeFunc rfl rfl ?_
        | (first | refine S.lss rfl rfl (fun hlt => ?_) (fun hlt => by exfalso; omega) | refine S.lss rfl rfl (fun hlt => by exfalso; omega) (fun hlt => ?_) | refine S.lss rfl rfl (fun hlt => ?_) (fun hlt => ?_))
        | (first | refine S.gtr rfl rfl (fun hlt => ?_) (fun hlt => by exfalso; omega) | refine S.gtr rfl rfl (fun hlt => by exfalso; omega) (fun hlt => ?_) | refine S.gtr rfl rfl (fun hlt => ?_) (fun hlt => ?_))
        | (first | refine S.leq rfl rfl (fun hlt => ?_) (fun hlt => by exfalso; omega) | refine S.leq rfl rfl (fun hlt => by exfalso; omega) (fun hlt => ?_) | refine S.leq rfl rfl (fun hlt => ?_) (fun hlt => ?_))
        | (first | refine S.geq rfl rfl (fun hlt => ?_) (fun hlt => by exfalso; omega) | refine S.geq rfl rfl (fun hlt => by exfalso; omega) (fun hlt => ?_) | refine S.geq rfl rfl (fun hlt => ?_) (fun hlt => ?_))
        | (first | refine S.eqInt rfl rfl (fun hlt => ?_) (fun hlt => by exfalso; omega) | refine S.eqInt rfl rfl (fun hlt => by exfalso; omega) (fun hlt => ?_) | refine S.eqInt rfl rfl (fun hlt => ?_) (fun hlt => ?_)))
      | (refine S.op0 rfl ?_; first | refine S.storeS rfl rfl rfl (by rfl) rfl (by first | decide | exact Nat.le_refl _ | exact Nat.le_of_ble_eq_true rfl) ?_ | refine S.store rfl rfl (by (repeat' (first | assumption | exact AHeap.set_same _ _ _ | refine AHeap.get_fresh (by assumption) ?_ | refine AHeap.so ?_ ?_ | exact AHeap.n1 (by assumption) | exact AHeap.n2 (by assumption) | exact AHeap.ne_of (by assumption) (by assumption) | exact AHeap.n4 (by assumption) (by assumption) | exact AHeap.n5 (by assumption) | exact AHeap.n6 (by assumption) | exact AHeap.n7 (by assumption) (by assumption) | exact AHeap.n8 (by assumption) (by assumption))); first | done | fail) rfl rfl rfl (by rfl) rfl ?_)
      | refine S.skip rfl ?_
      | refine S.skip0 rfl ?_
      | refine S.seq ?_
      | refine S.region ?_
      | refine S.regionT ?_
      | refine S.tstep ?_
      | refine S.talt ?_ ?_
      | exact S.tstop
      | refine S.tdone ?_
      | refine S.condT rfl ?_
      | refine S.condF rfl ?_
      | refine RRun.skip ?_
      | refine RRun.block ?_
      | refine RRun.inBlock ?_
      | refine RRun.exit rfl ?_)
    apply S.ret rr3
    case hx => repeat (first | exact ResAt.nil | apply ResAt.tmp rfl | apply ResAt.cellA rfl (by (repeat' (first | assumption | exact AHeap.set_same _ _ _ | refine AHeap.get_fresh (by assumption) ?_ | refine AHeap.so ?_ ?_ | exact AHeap.n1 (by assumption) | exact AHeap.n2 (by assumption) | exact AHeap.ne_of (by assumption) (by assumption) | exact AHeap.n4 (by assumption) (by assumption) | exact AHeap.n5 (by assumption) | exact AHeap.n6 (by assumption) | exact AHeap.n7 (by assumption) (by assumption) | exact AHeap.n8 (by assumption) (by assumption))); first | done | fail) (by rfl) | apply ResAt.cell1 rfl (by (repeat' (first | assumption | exact AHeap.set_same _ _ _ | refine AHeap.get_fresh (by assumption) ?_ | refine AHeap.so ?_ ?_ | exact AHeap.n1 (by assumption) | exact AHeap.n2 (by assumption) | exact AHeap.ne_of (by assumption) (by assumption) | exact AHeap.n4 (by assumption) (by assumption) | exact AHeap.n5 (by assumption) | exact AHeap.n6 (by assumption) | exact AHeap.n7 (by assumption) (by assumption) | exact AHeap.n8 (by assumption) (by assumption))); first | done | fail) (by rfl))
    refine ⟨_, h, .refl _, fun x o ex => ⟨o, ?_, .refl o⟩, rfl, rfl⟩
    have : x ≠ b4 := fun e' => by subst e'; rw [k4] at ex; cases ex
    simp only [AHeap.set, this, if_false]; exact hle x o ex
  · intro D hD hle
    apply S.ret rr3
    case hx => repeat (first | exact ResAt.nil | apply ResAt.tmp rfl | apply ResAt.cellA rfl (by (repeat' (first | assumption | exact AHeap.set_same _ _ _ | refine AHeap.get_fresh (by assumption) ?_ | refine AHeap.so ?_ ?_ | exact AHeap.n1 (by assumption) | exact AHeap.n2 (by assumption) | exact AHeap.ne_of (by assumption) (by assumption) | exact AHeap.n4 (by assumption) (by assumption) | exact AHeap.n5 (by assumption) | exact AHeap.n6 (by assumption) | exact AHeap.n7 (by assumption) (by assumption) | exact AHeap.n8 (by assumption) (by assumption))); first | done | fail) (by rfl) | apply ResAt.cell1 rfl (by (repeat' (first | assumption | exact AHeap.set_same _ _ _ | refine AHeap.get_fresh (by assumption) ?_ | refine AHeap.so ?_ ?_ | exact AHeap.n1 (by assumption) | exact AHeap.n2 (by assumption) | exact AHeap.ne_of (by assumption) (by assumption) | exact AHeap.n4 (by assumption) (by assumption) | exact AHeap.n5 (by assumption) | exact AHeap.n6 (by assumption) | exact AHeap.n7 (by assumption) (by assumption) | exact AHeap.n8 (by assumption) (by assumption))); first | done | fail) (by rfl))
    exact ⟨_, h, .refl _, fun x o ex => ⟨o, hle x o ex, .refl o⟩, rfl, rfl⟩


theorem lexTokens_spec (s : List UInt8) (most : Int) (hm : Fits most) (h : AHeap) : ACalls Try.prog 3 [str s, i64 most] h (fun x h' => x = bl true ∧ h' = h) := by
  by_cases hb : s.length ≤ 2000 ∧ 0 ≤ most
  · cases he : (cutS s).2 with
    | none => exact law_none s hb.1 most hm hb.2 he h
    | some ep => exact law_err s hb.1 most hm hb.2 ep.1 ep.2 he h
  · exact law_small s most hm hb h

end Go.Proofs.Ytcjcmegkfplnkaa
