import Derived.Test.YtnmgamcmjjngcaaV5
set_option linter.unusedVariables false
set_option linter.unusedSimpArgs false
namespace Go.Proofs.Ytnmgamcmjjngcaa
open Go.Av

theorem plain_loop {h₀ : AHeap} (l : List Msg) (hl : l.length ≤ 30) (hf : ∀ x ∈ l, x.fits) (cut : Bool) {p bm : Nat} (k : List RT) (hk : ∀ M h, MAt h₀ M p bm h → M.wait = [] → RRun Try.prog Try.f4 113 k (Env.get [(5, ptr p)]) h (Weak fun x h' => x = bl true ∧ h' = h₀)) (m : Nat) :
    ∀ (i : Nat) (M : Mesh) (h : AHeap), i + m = l.length → MAt h₀ M p bm h → M.now = 0 → M.wait = pend (cuts l cut) (l.drop i) →
      RRun Try.prog Try.f4 113 (.inLoop r4l0 :: .inBlock 0 :: k) (Env.get [(39, i64 i), (38, i64 l.length), (37, msgs l), (0, msgs l), (1, bl cut), (5, ptr p)]) h (Weak fun x h' => x = bl true ∧ h' = h₀) := by
  have hlen0 : (l.map Msg.cells).length = l.length := by simp
  induction m with
  | zero =>
    intro i M h hi H hn hw
    rw [List.drop_of_length_le (by omega)] at hw
    refine RRun.inLoop ?_
    repeat' (first
      | refine S.nilK ?_
      | (refine S.op rfl ?_; first
        | refine R.mv rfl ?_
        | refine R.fieldAddr rfl ?_
        | refine R.fieldAddrR rfl ?_
        | refine R.nilCheck rfl ?_
        | refine R.nilCheckR rfl ?_
        | refine R.loadR rfl rfl ?_
        | refine R.load (by decide) rfl (by (repeat' (first | assumption | exact AHeap.set_same _ _ _ | refine AHeap.get_fresh (by assumption) ?_ | (refine (AHeap.set_other _ _ ?_).trans ?_; first | exact (AHeap.fresh_set (by assumption)).1 | exact Ne.symm (AHeap.fresh_set (by assumption)).1 | exact AHeap.ne_of (by assumption) (by assumption) | exact Ne.symm (AHeap.ne_of (by assumption) (by assumption)) | exact (AHeap.fresh_set (AHeap.fresh_set (by assumption)).2).1 | exact Ne.symm (AHeap.fresh_set (AHeap.fresh_set (by assumption)).2).1 | exact AHeap.ne_of (AHeap.fresh_set (by assumption)).2 (by assumption) | exact Ne.symm (AHeap.ne_of (AHeap.fresh_set (by assumption)).2 (by assumption)) | assumption | skip) | exact (AHeap.fresh_set (by assumption)).1 | exact Ne.symm (AHeap.fresh_set (by assumption)).1 | exact AHeap.ne_of (by assumption) (by assumption) | exact Ne.symm (AHeap.ne_of (by assumption) (by assumption)) | exact (AHeap.fresh_set (AHeap.fresh_set (by assumption)).2).1 | exact Ne.symm (AHeap.fresh_set (AHeap.fresh_set (by assumption)).2).1 | exact AHeap.ne_of (AHeap.fresh_set (by assumption)).2 (by assumption) | exact Ne.symm (AHeap.ne_of (AHeap.fresh_set (by assumption)).2 (by assumption)))); first | done | fail) rfl ?_
        | refine S.addI rfl rfl (by omega) ?_
        | refine S.subI rfl rfl (by omega) ?_
        | refine S.addU rfl rfl ?_
        | refine S.subU rfl rfl ?_
        | refine S.addUc rfl (by decide) ?_
        | refine S.subUc rfl (by decide) ?_
        | refine S.arith rfl rfl rfl ?_
        | refine R.pickT rfl rfl ?_
        | refine R.pickF rfl rfl ?_
        | refine R.len rfl ?_
        | refine R.lenA rfl ?_
        | refine R.lenStr rfl ?_
        | refine S.convIU rfl (by omega) ?_
        | refine S.convUI rfl (by omega) ?_
        | refine R.convInt rfl ?_
        | refine R.not rfl ?_
        | refine R.eqPtrNil rfl rfl ?_
        | refine R.extract rfl rfl ?_
        | refine R.field rfl rfl ?_
        | refine R.alloc rfl (fun b hb => ?_)
        | refine R.box rfl rfl rfl (fun b hb => ?_)
        | refine R.build rfl rfl ?_
        | refine R.buildSl rfl rfl rfl (by decide) ?_
        | refine R.toStr rfl ?_
        | refine R.convStr rfl ?_
        | refine R.minmax rfl ?_
        | refine R.makeFunc rfl rfl ?_
        | (first | refine S.lss rfl rfl (fun hlt => ?_) (fun hlt => by exfalso; omega) | refine S.lss rfl rfl (fun hlt => by exfalso; omega) (fun hlt => ?_) | refine S.lss rfl rfl (fun hlt => ?_) (fun hlt => ?_))
        | (first | refine S.gtr rfl rfl (fun hlt => ?_) (fun hlt => by exfalso; omega) | refine S.gtr rfl rfl (fun hlt => by exfalso; omega) (fun hlt => ?_) | refine S.gtr rfl rfl (fun hlt => ?_) (fun hlt => ?_))
        | (first | refine S.leq rfl rfl (fun hlt => ?_) (fun hlt => by exfalso; omega) | refine S.leq rfl rfl (fun hlt => by exfalso; omega) (fun hlt => ?_) | refine S.leq rfl rfl (fun hlt => ?_) (fun hlt => ?_))
        | (first | refine S.geq rfl rfl (fun hlt => ?_) (fun hlt => by exfalso; omega) | refine S.geq rfl rfl (fun hlt => by exfalso; omega) (fun hlt => ?_) | refine S.geq rfl rfl (fun hlt => ?_) (fun hlt => ?_))
        | (first | refine S.eqInt rfl rfl (fun hlt => ?_) (fun hlt => by exfalso; omega) | refine S.eqInt rfl rfl (fun hlt => by exfalso; omega) (fun hlt => ?_) | refine S.eqInt rfl rfl (fun hlt => ?_) (fun hlt => ?_)))
      | (refine S.op0 rfl ?_; first | refine S.storeS rfl rfl rfl (by rfl) rfl (by first | decide | exact Nat.le_refl _ | exact Nat.le_of_ble_eq_true rfl) ?_ | refine S.store rfl rfl (by (repeat' (first | assumption | exact AHeap.set_same _ _ _ | refine AHeap.get_fresh (by assumption) ?_ | (refine (AHeap.set_other _ _ ?_).trans ?_; first | exact (AHeap.fresh_set (by assumption)).1 | exact Ne.symm (AHeap.fresh_set (by assumption)).1 | exact AHeap.ne_of (by assumption) (by assumption) | exact Ne.symm (AHeap.ne_of (by assumption) (by assumption)) | exact (AHeap.fresh_set (AHeap.fresh_set (by assumption)).2).1 | exact Ne.symm (AHeap.fresh_set (AHeap.fresh_set (by assumption)).2).1 | exact AHeap.ne_of (AHeap.fresh_set (by assumption)).2 (by assumption) | exact Ne.symm (AHeap.ne_of (AHeap.fresh_set (by assumption)).2 (by assumption)) | assumption | skip) | exact (AHeap.fresh_set (by assumption)).1 | exact Ne.symm (AHeap.fresh_set (by assumption)).1 | exact AHeap.ne_of (by assumption) (by assumption) | exact Ne.symm (AHeap.ne_of (by assumption) (by assumption)) | exact (AHeap.fresh_set (AHeap.fresh_set (by assumption)).2).1 | exact Ne.symm (AHeap.fresh_set (AHeap.fresh_set (by assumption)).2).1 | exact AHeap.ne_of (AHeap.fresh_set (by assumption)).2 (by assumption) | exact Ne.symm (AHeap.ne_of (AHeap.fresh_set (by assumption)).2 (by assumption)))); first | done | fail) rfl rfl rfl (by rfl) rfl ?_)
      | refine S.skip rfl ?_
      | refine S.skip0 rfl ?_
      | refine S.seq ?_
      | refine S.region ?_
      | refine S.regionT ?_
      | refine S.tstep ?_
      | refine S.talt ?_ ?_
      | exact S.tstop
      | refine S.tdone ?_
      | refine S.condT rfl ?_
      | refine S.condF rfl ?_
      | refine RRun.skip ?_
      | refine RRun.block ?_
      | refine RRun.inBlock ?_
      | refine RRun.exit rfl ?_)
    exact S.keep [5] rfl (hk M h H hw)
  | succ m ih =>
    intro i M h hi H hn hw
    have hie : i < l.length := by omega
    have hgi : (l.map Msg.cells)[((i : Nat) : Int).toNat]? = some l[i].cells := by simp [hie]
    obtain ⟨a, r, hla⟩ : ∃ a r, l = a :: r := by cases l with | nil => simp at hie | cons a r => exact ⟨a, r, rfl⟩
    have hg0 : (l.map Msg.cells)[(0 : Int).toNat]? = some a.cells := by rw [hla]; rfl
    rw [List.drop_eq_getElem_cons hie] at hw
    have hxf := hf _ (List.getElem_mem hie)
    generalize l[i] = x at hgi hxf hw
    have hdr : (l.drop (i + 1)).length ≤ 30 := by rw [List.length_drop]; omega
    have c12 := small_spec x.ents (by have := hxf.1; omega)
    have c11 := smallSnap_spec x.snap
    generalize small x.ents = b1 at c12
    generalize x.snap.small = b2 at c11
    have hle : ∀ b o, h b = none → h₀.le (h.set b o) := fun b o hb => (H.alloc o hb).le
    have hskip : ∀ {b : Nat} (o : ABlk) (hb : h b = none), keepB (cuts l cut) x = false → RRun Try.prog Try.f4 113 (r4k k) (Env.get [(39, i64 i), (38, i64 l.length), (37, msgs l), (0, msgs l), (1, bl cut), (5, ptr p)]) (h.set b o) (Weak fun x h' => x = bl true ∧ h' = h₀) := by
      intro b o hb hkb
      rw [pend_skip hkb] at hw
      unfold r4k
      repeat' (first
        | refine S.nilK ?_
        | (refine S.op rfl ?_; first
          | refine R.mv rfl ?_
          | refine R.fieldAddr rfl ?_
          | refine R.fieldAddrR rfl ?_
          | refine R.nilCheck rfl ?_
          | refine R.nilCheckR rfl ?_
          | refine R.loadR rfl rfl ?_
          | refine R.load (by decide) rfl (by (repeat' (first | assumption | exact AHeap.set_same _ _ _ | refine AHeap.get_fresh (by assumption) ?_ | (refine (AHeap.set_other _ _ ?_).trans ?_; first | exact (AHeap.fresh_set (by assumption)).1 | exact Ne.symm (AHeap.fresh_set (by assumption)).1 | exact AHeap.ne_of (by assumption) (by assumption) | exact Ne.symm (AHeap.ne_of (by assumption) (by assumption)) | exact (AHeap.fresh_set (AHeap.fresh_set (by assumption)).2).1 | exact Ne.symm (AHeap.fresh_set (AHeap.fresh_set (by assumption)).2).1 | exact AHeap.ne_of (AHeap.fresh_set (by assumption)).2 (by assumption) | exact Ne.symm (AHeap.ne_of (AHeap.fresh_set (by assumption)).2 (by assumption)) | assumption | skip) | exact (AHeap.fresh_set (by assumption)).1 | exact Ne.symm (AHeap.fresh_set (by assumption)).1 | exact AHeap.ne_of (by assumption) (by assumption) | exact Ne.symm (AHeap.ne_of (by assumption) (by assumption)) | exact (AHeap.fresh_set (AHeap.fresh_set (by assumption)).2).1 | exact Ne.symm (AHeap.fresh_set (AHeap.fresh_set (by assumption)).2).1 | exact AHeap.ne_of (AHeap.fresh_set (by assumption)).2 (by assumption) | exact Ne.symm (AHeap.ne_of (AHeap.fresh_set (by assumption)).2 (by assumption)))); first | done | fail) rfl ?_
          | refine S.addI rfl rfl (by omega) ?_
          | refine S.subI rfl rfl (by omega) ?_
          | refine S.addU rfl rfl ?_
          | refine S.subU rfl rfl ?_
          | refine S.addUc rfl (by decide) ?_
          | refine S.subUc rfl (by decide) ?_
          | refine S.arith rfl rfl rfl ?_
          | refine R.pickT rfl rfl ?_
          | refine R.pickF rfl rfl ?_
          | refine R.len rfl ?_
          | refine R.lenA rfl ?_
          | refine R.lenStr rfl ?_
          | refine S.convIU rfl (by omega) ?_
          | refine S.convUI rfl (by omega) ?_
          | refine R.convInt rfl ?_
          | refine R.not rfl ?_
          | refine R.eqPtrNil rfl rfl ?_
          | refine R.extract rfl rfl ?_
          | refine R.field rfl rfl ?_
          | refine R.alloc rfl (fun b hb => ?_)
          | refine R.box rfl rfl rfl (fun b hb => ?_)
          | refine R.build rfl rfl ?_
          | refine R.buildSl rfl rfl rfl (by decide) ?_
          | refine R.toStr rfl ?_
          | refine R.convStr rfl ?_
          | refine R.minmax rfl ?_
          | refine R.makeFunc rfl rfl ?_
          | (first | refine S.lss rfl rfl (fun hlt => ?_) (fun hlt => by exfalso; omega) | refine S.lss rfl rfl (fun hlt => by exfalso; omega) (fun hlt => ?_) | refine S.lss rfl rfl (fun hlt => ?_) (fun hlt => ?_))
          | (first | refine S.gtr rfl rfl (fun hlt => ?_) (fun hlt => by exfalso; omega) | refine S.gtr rfl rfl (fun hlt => by exfalso; omega) (fun hlt => ?_) | refine S.gtr rfl rfl (fun hlt => ?_) (fun hlt => ?_))
          | (first | refine S.leq rfl rfl (fun hlt => ?_) (fun hlt => by exfalso; omega) | refine S.leq rfl rfl (fun hlt => by exfalso; omega) (fun hlt => ?_) | refine S.leq rfl rfl (fun hlt => ?_) (fun hlt => ?_))
          | (first | refine S.geq rfl rfl (fun hlt => ?_) (fun hlt => by exfalso; omega) | refine S.geq rfl rfl (fun hlt => by exfalso; omega) (fun hlt => ?_) | refine S.geq rfl rfl (fun hlt => ?_) (fun hlt => ?_))
          | (first | refine S.eqInt rfl rfl (fun hlt => ?_) (fun hlt => by exfalso; omega) | refine S.eqInt rfl rfl (fun hlt => by exfalso; omega) (fun hlt => ?_) | refine S.eqInt rfl rfl (fun hlt => ?_) (fun hlt => ?_)))
        | (refine S.op0 rfl ?_; first | refine S.storeS rfl rfl rfl (by rfl) rfl (by first | decide | exact Nat.le_refl _ | exact Nat.le_of_ble_eq_true rfl) ?_ | refine S.store rfl rfl (by (repeat' (first | assumption | exact AHeap.set_same _ _ _ | refine AHeap.get_fresh (by assumption) ?_ | (refine (AHeap.set_other _ _ ?_).trans ?_; first | exact (AHeap.fresh_set (by assumption)).1 | exact Ne.symm (AHeap.fresh_set (by assumption)).1 | exact AHeap.ne_of (by assumption) (by assumption) | exact Ne.symm (AHeap.ne_of (by assumption) (by assumption)) | exact (AHeap.fresh_set (AHeap.fresh_set (by assumption)).2).1 | exact Ne.symm (AHeap.fresh_set (AHeap.fresh_set (by assumption)).2).1 | exact AHeap.ne_of (AHeap.fresh_set (by assumption)).2 (by assumption) | exact Ne.symm (AHeap.ne_of (AHeap.fresh_set (by assumption)).2 (by assumption)) | assumption | skip) | exact (AHeap.fresh_set (by assumption)).1 | exact Ne.symm (AHeap.fresh_set (by assumption)).1 | exact AHeap.ne_of (by assumption) (by assumption) | exact Ne.symm (AHeap.ne_of (by assumption) (by assumption)) | exact (AHeap.fresh_set (AHeap.fresh_set (by assumption)).2).1 | exact Ne.symm (AHeap.fresh_set (AHeap.fresh_set (by assumption)).2).1 | exact AHeap.ne_of (AHeap.fresh_set (by assumption)).2 (by assumption) | exact Ne.symm (AHeap.ne_of (AHeap.fresh_set (by assumption)).2 (by assumption)))); first | done | fail) rfl rfl rfl (by rfl) rfl ?_)
        | refine S.skip rfl ?_
        | refine S.skip0 rfl ?_
        | refine S.seq ?_
        | refine S.region ?_
        | refine S.regionT ?_
        | refine S.tstep ?_
        | refine S.talt ?_ ?_
        | exact S.tstop
        | refine S.tdone ?_
        | refine S.condT rfl ?_
        | refine S.condF rfl ?_
        | refine RRun.skip ?_
        | refine RRun.block ?_
        | refine RRun.inBlock ?_
        | refine RRun.exit rfl ?_)
      exact S.keep [39, 38, 37, 0, 1, 5] rfl (ih (i + 1) M _ (by omega) (H.alloc o hb) hn hw)
    have hgo : ∀ {b : Nat} (hb : h b = none), keepB (cuts l cut) x = true → RRun Try.prog Try.f4 113 (.code r4g :: .inBlock 1 :: r4k k)
        (Env.get [(39, i64 i), (38, i64 l.length), (37, msgs l), (0, msgs l), (1, bl cut), (5, ptr p), (7, ptr b)]) (h.set b (.box x.cells)) (Weak fun x h' => x = bl true ∧ h' = h₀) := by
      intro b hb hkb
      rw [pend_go hkb] at hw
      have hb0 := H.free hb
      refine plain_go l hl hxf (cuts l cut) cut (H.join (.box x.cells) hb) hn hw hdr (AHeap.set_same _ _ _) i (by omega) _ _ (fun h' H' => ?_)
      have H2 := H'.drop hb0
      obtain ⟨_, _, g3, g4⟩ := next_plain M hn hw
      unfold r4k
      repeat' (first
        | refine S.nilK ?_
        | (refine S.op rfl ?_; first
          | refine R.mv rfl ?_
          | refine R.fieldAddr rfl ?_
          | refine R.fieldAddrR rfl ?_
          | refine R.nilCheck rfl ?_
          | refine R.nilCheckR rfl ?_
          | refine R.loadR rfl rfl ?_
          | refine R.load (by decide) rfl (by (repeat' (first | assumption | exact AHeap.set_same _ _ _ | refine AHeap.get_fresh (by assumption) ?_ | (refine (AHeap.set_other _ _ ?_).trans ?_; first | exact (AHeap.fresh_set (by assumption)).1 | exact Ne.symm (AHeap.fresh_set (by assumption)).1 | exact AHeap.ne_of (by assumption) (by assumption) | exact Ne.symm (AHeap.ne_of (by assumption) (by assumption)) | exact (AHeap.fresh_set (AHeap.fresh_set (by assumption)).2).1 | exact Ne.symm (AHeap.fresh_set (AHeap.fresh_set (by assumption)).2).1 | exact AHeap.ne_of (AHeap.fresh_set (by assumption)).2 (by assumption) | exact Ne.symm (AHeap.ne_of (AHeap.fresh_set (by assumption)).2 (by assumption)) | assumption | skip) | exact (AHeap.fresh_set (by assumption)).1 | exact Ne.symm (AHeap.fresh_set (by assumption)).1 | exact AHeap.ne_of (by assumption) (by assumption) | exact Ne.symm (AHeap.ne_of (by assumption) (by assumption)) | exact (AHeap.fresh_set (AHeap.fresh_set (by assumption)).2).1 | exact Ne.symm (AHeap.fresh_set (AHeap.fresh_set (by assumption)).2).1 | exact AHeap.ne_of (AHeap.fresh_set (by assumption)).2 (by assumption) | exact Ne.symm (AHeap.ne_of (AHeap.fresh_set (by assumption)).2 (by assumption)))); first | done | fail) rfl ?_
          | refine S.addI rfl rfl (by omega) ?_
          | refine S.subI rfl rfl (by omega) ?_
          | refine S.addU rfl rfl ?_
          | refine S.subU rfl rfl ?_
          | refine S.addUc rfl (by decide) ?_
          | refine S.subUc rfl (by decide) ?_
          | refine S.arith rfl rfl rfl ?_
          | refine R.pickT rfl rfl ?_
          | refine R.pickF rfl rfl ?_
          | refine R.len rfl ?_
          | refine R.lenA rfl ?_
          | refine R.lenStr rfl ?_
          | refine S.convIU rfl (by omega) ?_
          | refine S.convUI rfl (by omega) ?_
          | refine R.convInt rfl ?_
          | refine R.not rfl ?_
          | refine R.eqPtrNil rfl rfl ?_
          | refine R.extract rfl rfl ?_
          | refine R.field rfl rfl ?_
          | refine R.alloc rfl (fun b hb => ?_)
          | refine R.box rfl rfl rfl (fun b hb => ?_)
          | refine R.build rfl rfl ?_
          | refine R.buildSl rfl rfl rfl (by decide) ?_
          | refine R.toStr rfl ?_
          | refine R.convStr rfl ?_
          | refine R.minmax rfl ?_
          | refine R.makeFunc rfl rfl ?_
          | (first | refine S.lss rfl rfl (fun hlt => ?_) (fun hlt => by exfalso; omega) | refine S.lss rfl rfl (fun hlt => by exfalso; omega) (fun hlt => ?_) | refine S.lss rfl rfl (fun hlt => ?_) (fun hlt => ?_))
          | (first | refine S.gtr rfl rfl (fun hlt => ?_) (fun hlt => by exfalso; omega) | refine S.gtr rfl rfl (fun hlt => by exfalso; omega) (fun hlt => ?_) | refine S.gtr rfl rfl (fun hlt => ?_) (fun hlt => ?_))
          | (first | refine S.leq rfl rfl (fun hlt => ?_) (fun hlt => by exfalso; omega) | refine S.leq rfl rfl (fun hlt => by exfalso; omega) (fun hlt => ?_) | refine S.leq rfl rfl (fun hlt => ?_) (fun hlt => ?_))
          | (first | refine S.geq rfl rfl (fun hlt => ?_) (fun hlt => by exfalso; omega) | refine S.geq rfl rfl (fun hlt => by exfalso; omega) (fun hlt => ?_) | refine S.geq rfl rfl (fun hlt => ?_) (fun hlt => ?_))
          | (first | refine S.eqInt rfl rfl (fun hlt => ?_) (fun hlt => by exfalso; omega) | refine S.eqInt rfl rfl (fun hlt => by exfalso; omega) (fun hlt => ?_) | refine S.eqInt rfl rfl (fun hlt => ?_) (fun hlt => ?_)))
        | (refine S.op0 rfl ?_; first | refine S.storeS rfl rfl rfl (by rfl) rfl (by first | decide | exact Nat.le_refl _ | exact Nat.le_of_ble_eq_true rfl) ?_ | refine S.store rfl rfl (by (repeat' (first | assumption | exact AHeap.set_same _ _ _ | refine AHeap.get_fresh (by assumption) ?_ | (refine (AHeap.set_other _ _ ?_).trans ?_; first | exact (AHeap.fresh_set (by assumption)).1 | exact Ne.symm (AHeap.fresh_set (by assumption)).1 | exact AHeap.ne_of (by assumption) (by assumption) | exact Ne.symm (AHeap.ne_of (by assumption) (by assumption)) | exact (AHeap.fresh_set (AHeap.fresh_set (by assumption)).2).1 | exact Ne.symm (AHeap.fresh_set (AHeap.fresh_set (by assumption)).2).1 | exact AHeap.ne_of (AHeap.fresh_set (by assumption)).2 (by assumption) | exact Ne.symm (AHeap.ne_of (AHeap.fresh_set (by assumption)).2 (by assumption)) | assumption | skip) | exact (AHeap.fresh_set (by assumption)).1 | exact Ne.symm (AHeap.fresh_set (by assumption)).1 | exact AHeap.ne_of (by assumption) (by assumption) | exact Ne.symm (AHeap.ne_of (by assumption) (by assumption)) | exact (AHeap.fresh_set (AHeap.fresh_set (by assumption)).2).1 | exact Ne.symm (AHeap.fresh_set (AHeap.fresh_set (by assumption)).2).1 | exact AHeap.ne_of (AHeap.fresh_set (by assumption)).2 (by assumption) | exact Ne.symm (AHeap.ne_of (AHeap.fresh_set (by assumption)).2 (by assumption)))); first | done | fail) rfl rfl rfl (by rfl) rfl ?_)
        | refine S.skip rfl ?_
        | refine S.skip0 rfl ?_
        | refine S.seq ?_
        | refine S.region ?_
        | refine S.regionT ?_
        | refine S.tstep ?_
        | refine S.talt ?_ ?_
        | exact S.tstop
        | refine S.tdone ?_
        | refine S.condT rfl ?_
        | refine S.condF rfl ?_
        | refine RRun.skip ?_
        | refine RRun.block ?_
        | refine RRun.inBlock ?_
        | refine RRun.exit rfl ?_)
      exact S.keep [39, 38, 37, 0, 1, 5] rfl (ih (i + 1) M.rest _ (by omega) H2 g4 g3)
    clear ih
    by_cases hbb : b1 = false ∨ b2 = false
    · exact it_small l.length l rfl hl i hie hgi b1 b2 c12 c11 hbb _ k hle
    · obtain rfl : b1 = true := by cases b1 <;> simp_all
      obtain rfl : b2 = true := by cases b2 <;> simp_all
      cases cut with
      | false => exact it_free l.length l rfl hl i hie hgi c12 c11 k _ (fun hb => hgo hb (keep_free l x))
      | true =>
        have hkb : keepB (cuts l true) x = true ↔ ¬ same2 x a := by rw [hla]; exact keep_cuts a r x
        refine it_cut l.length l rfl hl i hie hgi hg0 c12 c11 k _ (fun hb hs => hskip _ hb ?_) (fun hb hs => hgo hb (hkb.2 hs))
        cases hc : keepB (cuts l true) x with
        | false => rfl
        | true => exact absurd hs (hkb.1 hc)



def r4s : RCode :=
  (.seq (.region [
    ⟨(some 34), none, .act, .mv (.tmp 5)⟩,
    ⟨(some 35), none, .act, .mv (.tmp 0)⟩,
    ⟨(some 36), none, .act, .call 21 [(.tmp 34), (.tmp 35)]⟩])
  (.seq (.seq (.region [
    ⟨(some 37), none, .act, .mv (.tmp 0)⟩,
    ⟨(some 38), none, .act, .len (.tmp 37)⟩,
    ⟨(some 39), none, .act, .mv (.const (.int .i64 0))⟩])
  (.block 0
   (.loop r4l0)))
  (.seq (.region [
    ⟨(some 107), none, .act, .mv (.tmp 5)⟩,
    ⟨(some 108), none, .act, .call 22 [(.tmp 107)]⟩,
    ⟨(some 106), none, .act, .mv (.tmp 108)⟩,
    ⟨(some 109), none, .act, .extract (.tmp 106) 0⟩,
    ⟨(some 110), none, .act, .extract (.tmp 106) 1⟩,
    ⟨(some 10), none, .act, .alloc [(.int .i64 0), (.int .u64 0), (.int .u64 0), (.int .u64 0), (.int .u64 0), (.int .u64 0), (.int .u64 0), (.int .u64 0), (.bool false), (.slice none 0 0), (.int .u64 0), (.int .u64 0), (.slice none 0 0), (.slice none 0 0)]⟩,
    ⟨none, none, .act, .store 14 (.tmp 10) (.tmp 109)⟩,
    ⟨(some 11), none, .act, .mv (.tmp 110)⟩])
  (.seq (.region [
    ⟨(some 111), none, .act, .mv (.tmp 11)⟩,
    ⟨(some 112), none, .act, .un .not (.tmp 111)⟩,
    ⟨(some 4), none, .act, .mv (.tmp 112)⟩])
  .ret))))

theorem plain_tail (l : List Msg) (hl : l.length ≤ 30) (hf : ∀ x ∈ l, x.fits) (cut : Bool) {h₀ h : AHeap} {p bm : Nat} {M : Mesh} (H : MAt h₀ M p bm h) (m1 : M.fates = []) (m2 : M.sent = 0) (m3 : M.now = 0) (m4 : M.wait = []) (m5 : M.cut = cuts l cut) :
    RRun Try.prog Try.f4 113 [.code r4s] (Env.get [(0, msgs l), (1, bl cut), (5, ptr p)]) h (Weak fun x h' => x = bl true ∧ h' = h₀) := by
  have hlen0 : (l.map Msg.cells).length = l.length := by simp
  obtain ⟨s1, s2, s3⟩ := send_plain l M m1 m3
  unfold r4s
  repeat' (first
    | refine S.nilK ?_
    | (refine S.op rfl ?_; first
      | refine R.mv rfl ?_
      | refine R.fieldAddr rfl ?_
      | refine R.fieldAddrR rfl ?_
      | refine R.nilCheck rfl ?_
      | refine R.nilCheckR rfl ?_
      | refine R.loadR rfl rfl ?_
      | refine R.load (by decide) rfl (by (repeat' (first | assumption | exact AHeap.set_same _ _ _ | refine AHeap.get_fresh (by assumption) ?_ | (refine (AHeap.set_other _ _ ?_).trans ?_; first | exact (AHeap.fresh_set (by assumption)).1 | exact Ne.symm (AHeap.fresh_set (by assumption)).1 | exact AHeap.ne_of (by assumption) (by assumption) | exact Ne.symm (AHeap.ne_of (by assumption) (by assumption)) | exact (AHeap.fresh_set (AHeap.fresh_set (by assumption)).2).1 | exact Ne.symm (AHeap.fresh_set (AHeap.fresh_set (by assumption)).2).1 | exact AHeap.ne_of (AHeap.fresh_set (by assumption)).2 (by assumption) | exact Ne.symm (AHeap.ne_of (AHeap.fresh_set (by assumption)).2 (by assumption)) | assumption | skip) | exact (AHeap.fresh_set (by assumption)).1 | exact Ne.symm (AHeap.fresh_set (by assumption)).1 | exact AHeap.ne_of (by assumption) (by assumption) | exact Ne.symm (AHeap.ne_of (by assumption) (by assumption)) | exact (AHeap.fresh_set (AHeap.fresh_set (by assumption)).2).1 | exact Ne.symm (AHeap.fresh_set (AHeap.fresh_set (by assumption)).2).1 | exact AHeap.ne_of (AHeap.fresh_set (by assumption)).2 (by assumption) | exact Ne.symm (AHeap.ne_of (AHeap.fresh_set (by assumption)).2 (by assumption)))); first | done | fail) rfl ?_
      | refine S.addI rfl rfl (by omega) ?_
      | refine S.subI rfl rfl (by omega) ?_
      | refine S.addU rfl rfl ?_
      | refine S.subU rfl rfl ?_
      | refine S.addUc rfl (by decide) ?_
      | refine S.subUc rfl (by decide) ?_
      | refine S.arith rfl rfl rfl ?_
      | refine R.pickT rfl rfl ?_
      | refine R.pickF rfl rfl ?_
      | refine R.len rfl ?_
      | refine R.lenA rfl ?_
      | refine R.lenStr rfl ?_
      | refine S.convIU rfl (by omega) ?_
      | refine S.convUI rfl (by omega) ?_
      | refine R.convInt rfl ?_
      | refine R.not rfl ?_
      | refine R.eqPtrNil rfl rfl ?_
      | refine R.extract rfl rfl ?_
      | refine R.field rfl rfl ?_
      | refine R.alloc rfl (fun b hb => ?_)
      | refine R.box rfl rfl rfl (fun b hb => ?_)
      | refine R.build rfl rfl ?_
      | refine R.buildSl rfl rfl rfl (by decide) ?_
      | refine R.toStr rfl ?_
      | refine R.convStr rfl ?_
      | refine R.minmax rfl ?_
      | refine R.makeFunc rfl rfl ?_
      | (first | refine S.lss rfl rfl (fun hlt => ?_) (fun hlt => by exfalso; omega) | refine S.lss rfl rfl (fun hlt => by exfalso; omega) (fun hlt => ?_) | refine S.lss rfl rfl (fun hlt => ?_) (fun hlt => ?_))
      | (first | refine S.gtr rfl rfl (fun hlt => ?_) (fun hlt => by exfalso; omega) | refine S.gtr rfl rfl (fun hlt => by exfalso; omega) (fun hlt => ?_) | refine S.gtr rfl rfl (fun hlt => ?_) (fun hlt => ?_))
      | (first | refine S.leq rfl rfl (fun hlt => ?_) (fun hlt => by exfalso; omega) | refine S.leq rfl rfl (fun hlt => by exfalso; omega) (fun hlt => ?_) | refine S.leq rfl rfl (fun hlt => ?_) (fun hlt => ?_))
      | (first | refine S.geq rfl rfl (fun hlt => ?_) (fun hlt => by exfalso; omega) | refine S.geq rfl rfl (fun hlt => by exfalso; omega) (fun hlt => ?_) | refine S.geq rfl rfl (fun hlt => ?_) (fun hlt => ?_))
      | (first | refine S.eqInt rfl rfl (fun hlt => ?_) (fun hlt => by exfalso; omega) | refine S.eqInt rfl rfl (fun hlt => by exfalso; omega) (fun hlt => ?_) | refine S.eqInt rfl rfl (fun hlt => ?_) (fun hlt => ?_)))
    | (refine S.op0 rfl ?_; first | refine S.storeS rfl rfl rfl (by rfl) rfl (by first | decide | exact Nat.le_refl _ | exact Nat.le_of_ble_eq_true rfl) ?_ | refine S.store rfl rfl (by (repeat' (first | assumption | exact AHeap.set_same _ _ _ | refine AHeap.get_fresh (by assumption) ?_ | (refine (AHeap.set_other _ _ ?_).trans ?_; first | exact (AHeap.fresh_set (by assumption)).1 | exact Ne.symm (AHeap.fresh_set (by assumption)).1 | exact AHeap.ne_of (by assumption) (by assumption) | exact Ne.symm (AHeap.ne_of (by assumption) (by assumption)) | exact (AHeap.fresh_set (AHeap.fresh_set (by assumption)).2).1 | exact Ne.symm (AHeap.fresh_set (AHeap.fresh_set (by assumption)).2).1 | exact AHeap.ne_of (AHeap.fresh_set (by assumption)).2 (by assumption) | exact Ne.symm (AHeap.ne_of (AHeap.fresh_set (by assumption)).2 (by assumption)) | assumption | skip) | exact (AHeap.fresh_set (by assumption)).1 | exact Ne.symm (AHeap.fresh_set (by assumption)).1 | exact AHeap.ne_of (by assumption) (by assumption) | exact Ne.symm (AHeap.ne_of (by assumption) (by assumption)) | exact (AHeap.fresh_set (AHeap.fresh_set (by assumption)).2).1 | exact Ne.symm (AHeap.fresh_set (AHeap.fresh_set (by assumption)).2).1 | exact AHeap.ne_of (AHeap.fresh_set (by assumption)).2 (by assumption) | exact Ne.symm (AHeap.ne_of (AHeap.fresh_set (by assumption)).2 (by assumption)))); first | done | fail) rfl rfl rfl (by rfl) rfl ?_)
    | refine S.skip rfl ?_
    | refine S.skip0 rfl ?_
    | refine S.seq ?_
    | refine S.region ?_
    | refine S.regionT ?_
    | refine S.tstep ?_
    | refine S.talt ?_ ?_
    | exact S.tstop
    | refine S.tdone ?_
    | refine S.condT rfl ?_
    | refine S.condF rfl ?_
    | refine RRun.skip ?_
    | refine RRun.block ?_
    | refine RRun.inBlock ?_
    | refine RRun.exit rfl ?_)
  refine S.op rfl (R.call rfl rfl (ACalls.mono (send_spec l hf (by omega) M H (by rw [m4]; simp only [List.length_nil]; omega) (by rw [m2]; omega) (by rw [m3]; omega)) ?_))
  intro y h2 H2
  repeat' (first
    | refine S.nilK ?_
    | (refine S.op rfl ?_; first
      | refine R.mv rfl ?_
      | refine R.fieldAddr rfl ?_
      | refine R.fieldAddrR rfl ?_
      | refine R.nilCheck rfl ?_
      | refine R.nilCheckR rfl ?_
      | refine R.loadR rfl rfl ?_
      | refine R.load (by decide) rfl (by (repeat' (first | assumption | exact AHeap.set_same _ _ _ | refine AHeap.get_fresh (by assumption) ?_ | (refine (AHeap.set_other _ _ ?_).trans ?_; first | exact (AHeap.fresh_set (by assumption)).1 | exact Ne.symm (AHeap.fresh_set (by assumption)).1 | exact AHeap.ne_of (by assumption) (by assumption) | exact Ne.symm (AHeap.ne_of (by assumption) (by assumption)) | exact (AHeap.fresh_set (AHeap.fresh_set (by assumption)).2).1 | exact Ne.symm (AHeap.fresh_set (AHeap.fresh_set (by assumption)).2).1 | exact AHeap.ne_of (AHeap.fresh_set (by assumption)).2 (by assumption) | exact Ne.symm (AHeap.ne_of (AHeap.fresh_set (by assumption)).2 (by assumption)) | assumption | skip) | exact (AHeap.fresh_set (by assumption)).1 | exact Ne.symm (AHeap.fresh_set (by assumption)).1 | exact AHeap.ne_of (by assumption) (by assumption) | exact Ne.symm (AHeap.ne_of (by assumption) (by assumption)) | exact (AHeap.fresh_set (AHeap.fresh_set (by assumption)).2).1 | exact Ne.symm (AHeap.fresh_set (AHeap.fresh_set (by assumption)).2).1 | exact AHeap.ne_of (AHeap.fresh_set (by assumption)).2 (by assumption) | exact Ne.symm (AHeap.ne_of (AHeap.fresh_set (by assumption)).2 (by assumption)))); first | done | fail) rfl ?_
      | refine S.addI rfl rfl (by omega) ?_
      | refine S.subI rfl rfl (by omega) ?_
      | refine S.addU rfl rfl ?_
      | refine S.subU rfl rfl ?_
      | refine S.addUc rfl (by decide) ?_
      | refine S.subUc rfl (by decide) ?_
      | refine S.arith rfl rfl rfl ?_
      | refine R.pickT rfl rfl ?_
      | refine R.pickF rfl rfl ?_
      | refine R.len rfl ?_
      | refine R.lenA rfl ?_
      | refine R.lenStr rfl ?_
      | refine S.convIU rfl (by omega) ?_
      | refine S.convUI rfl (by omega) ?_
      | refine R.convInt rfl ?_
      | refine R.not rfl ?_
      | refine R.eqPtrNil rfl rfl ?_
      | refine R.extract rfl rfl ?_
      | refine R.field rfl rfl ?_
      | refine R.alloc rfl (fun b hb => ?_)
      | refine R.box rfl rfl rfl (fun b hb => ?_)
      | refine R.build rfl rfl ?_
      | refine R.buildSl rfl rfl rfl (by decide) ?_
      | refine R.toStr rfl ?_
      | refine R.convStr rfl ?_
      | refine R.minmax rfl ?_
      | refine R.makeFunc rfl rfl ?_
      | (first | refine S.lss rfl rfl (fun hlt => ?_) (fun hlt => by exfalso; omega) | refine S.lss rfl rfl (fun hlt => by exfalso; omega) (fun hlt => ?_) | refine S.lss rfl rfl (fun hlt => ?_) (fun hlt => ?_))
      | (first | refine S.gtr rfl rfl (fun hlt => ?_) (fun hlt => by exfalso; omega) | refine S.gtr rfl rfl (fun hlt => by exfalso; omega) (fun hlt => ?_) | refine S.gtr rfl rfl (fun hlt => ?_) (fun hlt => ?_))
      | (first | refine S.leq rfl rfl (fun hlt => ?_) (fun hlt => by exfalso; omega) | refine S.leq rfl rfl (fun hlt => by exfalso; omega) (fun hlt => ?_) | refine S.leq rfl rfl (fun hlt => ?_) (fun hlt => ?_))
      | (first | refine S.geq rfl rfl (fun hlt => ?_) (fun hlt => by exfalso; omega) | refine S.geq rfl rfl (fun hlt => by exfalso; omega) (fun hlt => ?_) | refine S.geq rfl rfl (fun hlt => ?_) (fun hlt => ?_))
      | (first | refine S.eqInt rfl rfl (fun hlt => ?_) (fun hlt => by exfalso; omega) | refine S.eqInt rfl rfl (fun hlt => by exfalso; omega) (fun hlt => ?_) | refine S.eqInt rfl rfl (fun hlt => ?_) (fun hlt => ?_)))
    | (refine S.op0 rfl ?_; first | refine S.storeS rfl rfl rfl (by rfl) rfl (by first | decide | exact Nat.le_refl _ | exact Nat.le_of_ble_eq_true rfl) ?_ | refine S.store rfl rfl (by (repeat' (first | assumption | exact AHeap.set_same _ _ _ | refine AHeap.get_fresh (by assumption) ?_ | (refine (AHeap.set_other _ _ ?_).trans ?_; first | exact (AHeap.fresh_set (by assumption)).1 | exact Ne.symm (AHeap.fresh_set (by assumption)).1 | exact AHeap.ne_of (by assumption) (by assumption) | exact Ne.symm (AHeap.ne_of (by assumption) (by assumption)) | exact (AHeap.fresh_set (AHeap.fresh_set (by assumption)).2).1 | exact Ne.symm (AHeap.fresh_set (AHeap.fresh_set (by assumption)).2).1 | exact AHeap.ne_of (AHeap.fresh_set (by assumption)).2 (by assumption) | exact Ne.symm (AHeap.ne_of (AHeap.fresh_set (by assumption)).2 (by assumption)) | assumption | skip) | exact (AHeap.fresh_set (by assumption)).1 | exact Ne.symm (AHeap.fresh_set (by assumption)).1 | exact AHeap.ne_of (by assumption) (by assumption) | exact Ne.symm (AHeap.ne_of (by assumption) (by assumption)) | exact (AHeap.fresh_set (AHeap.fresh_set (by assumption)).2).1 | exact Ne.symm (AHeap.fresh_set (AHeap.fresh_set (by assumption)).2).1 | exact AHeap.ne_of (AHeap.fresh_set (by assumption)).2 (by assumption) | exact Ne.symm (AHeap.ne_of (AHeap.fresh_set (by assumption)).2 (by assumption)))); first | done | fail) rfl rfl rfl (by rfl) rfl ?_)
    | refine S.skip rfl ?_
    | refine S.skip0 rfl ?_
    | refine S.seq ?_
    | refine S.region ?_
    | refine S.regionT ?_
    | refine S.tstep ?_
    | refine S.talt ?_ ?_
    | exact S.tstop
    | refine S.tdone ?_
    | refine S.condT rfl ?_
    | refine S.condF rfl ?_
    | refine RRun.skip ?_
    | refine RRun.block ?_
    | refine RRun.inBlock ?_
    | refine RRun.exit rfl ?_)
  rw [hlen0]
  refine RRun.loopIn (S.keep [39, 38, 37, 0, 1, 5] rfl (plain_loop l hl hf cut _ ?_ l.length 0 _ h2 (by omega) H2 s2 (by rw [s1, m4, m5]; rfl)))
  intro M3 h3 H3 hw
  have hn := next_none M3 hw
  repeat' (first
    | refine S.nilK ?_
    | (refine S.op rfl ?_; first
      | refine R.mv rfl ?_
      | refine R.fieldAddr rfl ?_
      | refine R.fieldAddrR rfl ?_
      | refine R.nilCheck rfl ?_
      | refine R.nilCheckR rfl ?_
      | refine R.loadR rfl rfl ?_
      | refine R.load (by decide) rfl (by (repeat' (first | assumption | exact AHeap.set_same _ _ _ | refine AHeap.get_fresh (by assumption) ?_ | (refine (AHeap.set_other _ _ ?_).trans ?_; first | exact (AHeap.fresh_set (by assumption)).1 | exact Ne.symm (AHeap.fresh_set (by assumption)).1 | exact AHeap.ne_of (by assumption) (by assumption) | exact Ne.symm (AHeap.ne_of (by assumption) (by assumption)) | exact (AHeap.fresh_set (AHeap.fresh_set (by assumption)).2).1 | exact Ne.symm (AHeap.fresh_set (AHeap.fresh_set (by assumption)).2).1 | exact AHeap.ne_of (AHeap.fresh_set (by assumption)).2 (by assumption) | exact Ne.symm (AHeap.ne_of (AHeap.fresh_set (by assumption)).2 (by assumption)) | assumption | skip) | exact (AHeap.fresh_set (by assumption)).1 | exact Ne.symm (AHeap.fresh_set (by assumption)).1 | exact AHeap.ne_of (by assumption) (by assumption) | exact Ne.symm (AHeap.ne_of (by assumption) (by assumption)) | exact (AHeap.fresh_set (AHeap.fresh_set (by assumption)).2).1 | exact Ne.symm (AHeap.fresh_set (AHeap.fresh_set (by assumption)).2).1 | exact AHeap.ne_of (AHeap.fresh_set (by assumption)).2 (by assumption) | exact Ne.symm (AHeap.ne_of (AHeap.fresh_set (by assumption)).2 (by assumption)))); first | done | fail) rfl ?_
      | refine S.addI rfl rfl (by omega) ?_
      | refine S.subI rfl rfl (by omega) ?_
      | refine S.addU rfl rfl ?_
      | refine S.subU rfl rfl ?_
      | refine S.addUc rfl (by decide) ?_
      | refine S.subUc rfl (by decide) ?_
      | refine S.arith rfl rfl rfl ?_
      | refine R.pickT rfl rfl ?_
      | refine R.pickF rfl rfl ?_
      | refine R.len rfl ?_
      | refine R.lenA rfl ?_
      | refine R.lenStr rfl ?_
      | refine S.convIU rfl (by omega) ?_
      | refine S.convUI rfl (by omega) ?_
      | refine R.convInt rfl ?_
      | refine R.not rfl ?_
      | refine R.eqPtrNil rfl rfl ?_
      | refine R.extract rfl rfl ?_
      | refine R.field rfl rfl ?_
      | refine R.alloc rfl (fun b hb => ?_)
      | refine R.box rfl rfl rfl (fun b hb => ?_)
      | refine R.build rfl rfl ?_
      | refine R.buildSl rfl rfl rfl (by decide) ?_
      | refine R.toStr rfl ?_
      | refine R.convStr rfl ?_
      | refine R.minmax rfl ?_
      | refine R.makeFunc rfl rfl ?_
      | (first | refine S.lss rfl rfl (fun hlt => ?_) (fun hlt => by exfalso; omega) | refine S.lss rfl rfl (fun hlt => by exfalso; omega) (fun hlt => ?_) | refine S.lss rfl rfl (fun hlt => ?_) (fun hlt => ?_))
      | (first | refine S.gtr rfl rfl (fun hlt => ?_) (fun hlt => by exfalso; omega) | refine S.gtr rfl rfl (fun hlt => by exfalso; omega) (fun hlt => ?_) | refine S.gtr rfl rfl (fun hlt => ?_) (fun hlt => ?_))
      | (first | refine S.leq rfl rfl (fun hlt => ?_) (fun hlt => by exfalso; omega) | refine S.leq rfl rfl (fun hlt => by exfalso; omega) (fun hlt => ?_) | refine S.leq rfl rfl (fun hlt => ?_) (fun hlt => ?_))
      | (first | refine S.geq rfl rfl (fun hlt => ?_) (fun hlt => by exfalso; omega) | refine S.geq rfl rfl (fun hlt => by exfalso; omega) (fun hlt => ?_) | refine S.geq rfl rfl (fun hlt => ?_) (fun hlt => ?_))
      | (first | refine S.eqInt rfl rfl (fun hlt => ?_) (fun hlt => by exfalso; omega) | refine S.eqInt rfl rfl (fun hlt => by exfalso; omega) (fun hlt => ?_) | refine S.eqInt rfl rfl (fun hlt => ?_) (fun hlt => ?_)))
    | (refine S.op0 rfl ?_; first | refine S.storeS rfl rfl rfl (by rfl) rfl (by first | decide | exact Nat.le_refl _ | exact Nat.le_of_ble_eq_true rfl) ?_ | refine S.store rfl rfl (by (repeat' (first | assumption | exact AHeap.set_same _ _ _ | refine AHeap.get_fresh (by assumption) ?_ | (refine (AHeap.set_other _ _ ?_).trans ?_; first | exact (AHeap.fresh_set (by assumption)).1 | exact Ne.symm (AHeap.fresh_set (by assumption)).1 | exact AHeap.ne_of (by assumption) (by assumption) | exact Ne.symm (AHeap.ne_of (by assumption) (by assumption)) | exact (AHeap.fresh_set (AHeap.fresh_set (by assumption)).2).1 | exact Ne.symm (AHeap.fresh_set (AHeap.fresh_set (by assumption)).2).1 | exact AHeap.ne_of (AHeap.fresh_set (by assumption)).2 (by assumption) | exact Ne.symm (AHeap.ne_of (AHeap.fresh_set (by assumption)).2 (by assumption)) | assumption | skip) | exact (AHeap.fresh_set (by assumption)).1 | exact Ne.symm (AHeap.fresh_set (by assumption)).1 | exact AHeap.ne_of (by assumption) (by assumption) | exact Ne.symm (AHeap.ne_of (by assumption) (by assumption)) | exact (AHeap.fresh_set (AHeap.fresh_set (by assumption)).2).1 | exact Ne.symm (AHeap.fresh_set (AHeap.fresh_set (by assumption)).2).1 | exact AHeap.ne_of (AHeap.fresh_set (by assumption)).2 (by assumption) | exact Ne.symm (AHeap.ne_of (AHeap.fresh_set (by assumption)).2 (by assumption)))); first | done | fail) rfl rfl rfl (by rfl) rfl ?_)
    | refine S.skip rfl ?_
    | refine S.skip0 rfl ?_
    | refine S.seq ?_
    | refine S.region ?_
    | refine S.regionT ?_
    | refine S.tstep ?_
    | refine S.talt ?_ ?_
    | exact S.tstop
    | refine S.tdone ?_
    | refine S.condT rfl ?_
    | refine S.condF rfl ?_
    | refine RRun.skip ?_
    | refine RRun.block ?_
    | refine RRun.inBlock ?_
    | refine RRun.exit rfl ?_)
  refine S.op rfl (R.call rfl rfl (ACalls.mono (next_spec H3 (by rw [hw]; exact Nat.zero_le _)) ?_))
  rintro _ h4 ⟨rfl, H4⟩
  rw [hn]
  repeat' (first
    | refine S.nilK ?_
    | (refine S.op rfl ?_; first
      | refine R.mv rfl ?_
      | refine R.fieldAddr rfl ?_
      | refine R.fieldAddrR rfl ?_
      | refine R.nilCheck rfl ?_
      | refine R.nilCheckR rfl ?_
      | refine R.loadR rfl rfl ?_
      | refine R.load (by decide) rfl (by (repeat' (first | assumption | exact AHeap.set_same _ _ _ | refine AHeap.get_fresh (by assumption) ?_ | (refine (AHeap.set_other _ _ ?_).trans ?_; first | exact (AHeap.fresh_set (by assumption)).1 | exact Ne.symm (AHeap.fresh_set (by assumption)).1 | exact AHeap.ne_of (by assumption) (by assumption) | exact Ne.symm (AHeap.ne_of (by assumption) (by assumption)) | exact (AHeap.fresh_set (AHeap.fresh_set (by assumption)).2).1 | exact Ne.symm (AHeap.fresh_set (AHeap.fresh_set (by assumption)).2).1 | exact AHeap.ne_of (AHeap.fresh_set (by assumption)).2 (by assumption) | exact Ne.symm (AHeap.ne_of (AHeap.fresh_set (by assumption)).2 (by assumption)) | assumption | skip) | exact (AHeap.fresh_set (by assumption)).1 | exact Ne.symm (AHeap.fresh_set (by assumption)).1 | exact AHeap.ne_of (by assumption) (by assumption) | exact Ne.symm (AHeap.ne_of (by assumption) (by assumption)) | exact (AHeap.fresh_set (AHeap.fresh_set (by assumption)).2).1 | exact Ne.symm (AHeap.fresh_set (AHeap.fresh_set (by assumption)).2).1 | exact AHeap.ne_of (AHeap.fresh_set (by assumption)).2 (by assumption) | exact Ne.symm (AHeap.ne_of (AHeap.fresh_set (by assumption)).2 (by assumption)))); first | done | fail) rfl ?_
      | refine S.addI rfl rfl (by omega) ?_
      | refine S.subI rfl rfl (by omega) ?_
      | refine S.addU rfl rfl ?_
      | refine S.subU rfl rfl ?_
      | refine S.addUc rfl (by decide) ?_
      | refine S.subUc rfl (by decide) ?_
      | refine S.arith rfl rfl rfl ?_
      | refine R.pickT rfl rfl ?_
      | refine R.pickF rfl rfl ?_
      | refine R.len rfl ?_
      | refine R.lenA rfl ?_
      | refine R.lenStr rfl ?_
      | refine S.convIU rfl (by omega) ?_
      | refine S.convUI rfl (by omega) ?_
      | refine R.convInt rfl ?_
      | refine R.not rfl ?_
      | refine R.eqPtrNil rfl rfl ?_
      | refine R.extract rfl rfl ?_
      | refine R.field rfl rfl ?_
      | refine R.alloc rfl (fun b hb => ?_)
      | refine R.box rfl rfl rfl (fun b hb => ?_)
      | refine R.build rfl rfl ?_
      | refine R.buildSl rfl rfl rfl (by decide) ?_
      | refine R.toStr rfl ?_
      | refine R.convStr rfl ?_
      | refine R.minmax rfl ?_
      | refine R.makeFunc rfl rfl ?_
      | (first | refine S.lss rfl rfl (fun hlt => ?_) (fun hlt => by exfalso; omega) | refine S.lss rfl rfl (fun hlt => by exfalso; omega) (fun hlt => ?_) | refine S.lss rfl rfl (fun hlt => ?_) (fun hlt => ?_))
      | (first | refine S.gtr rfl rfl (fun hlt => ?_) (fun hlt => by exfalso; omega) | refine S.gtr rfl rfl (fun hlt => by exfalso; omega) (fun hlt => ?_) | refine S.gtr rfl rfl (fun hlt => ?_) (fun hlt => ?_))
      | (first | refine S.leq rfl rfl (fun hlt => ?_) (fun hlt => by exfalso; omega) | refine S.leq rfl rfl (fun hlt => by exfalso; omega) (fun hlt => ?_) | refine S.leq rfl rfl (fun hlt => ?_) (fun hlt => ?_))
      | (first | refine S.geq rfl rfl (fun hlt => ?_) (fun hlt => by exfalso; omega) | refine S.geq rfl rfl (fun hlt => by exfalso; omega) (fun hlt => ?_) | refine S.geq rfl rfl (fun hlt => ?_) (fun hlt => ?_))
      | (first | refine S.eqInt rfl rfl (fun hlt => ?_) (fun hlt => by exfalso; omega) | refine S.eqInt rfl rfl (fun hlt => by exfalso; omega) (fun hlt => ?_) | refine S.eqInt rfl rfl (fun hlt => ?_) (fun hlt => ?_)))
    | (refine S.op0 rfl ?_; first | refine S.storeS rfl rfl rfl (by rfl) rfl (by first | decide | exact Nat.le_refl _ | exact Nat.le_of_ble_eq_true rfl) ?_ | refine S.store rfl rfl (by (repeat' (first | assumption | exact AHeap.set_same _ _ _ | refine AHeap.get_fresh (by assumption) ?_ | (refine (AHeap.set_other _ _ ?_).trans ?_; first | exact (AHeap.fresh_set (by assumption)).1 | exact Ne.symm (AHeap.fresh_set (by assumption)).1 | exact AHeap.ne_of (by assumption) (by assumption) | exact Ne.symm (AHeap.ne_of (by assumption) (by assumption)) | exact (AHeap.fresh_set (AHeap.fresh_set (by assumption)).2).1 | exact Ne.symm (AHeap.fresh_set (AHeap.fresh_set (by assumption)).2).1 | exact AHeap.ne_of (AHeap.fresh_set (by assumption)).2 (by assumption) | exact Ne.symm (AHeap.ne_of (AHeap.fresh_set (by assumption)).2 (by assumption)) | assumption | skip) | exact (AHeap.fresh_set (by assumption)).1 | exact Ne.symm (AHeap.fresh_set (by assumption)).1 | exact AHeap.ne_of (by assumption) (by assumption) | exact Ne.symm (AHeap.ne_of (by assumption) (by assumption)) | exact (AHeap.fresh_set (AHeap.fresh_set (by assumption)).2).1 | exact Ne.symm (AHeap.fresh_set (AHeap.fresh_set (by assumption)).2).1 | exact AHeap.ne_of (AHeap.fresh_set (by assumption)).2 (by assumption) | exact Ne.symm (AHeap.ne_of (AHeap.fresh_set (by assumption)).2 (by assumption)))); first | done | fail) rfl rfl rfl (by rfl) rfl ?_)
    | refine S.skip rfl ?_
    | refine S.skip0 rfl ?_
    | refine S.seq ?_
    | refine S.region ?_
    | refine S.regionT ?_
    | refine S.tstep ?_
    | refine S.talt ?_ ?_
    | exact S.tstop
    | refine S.tdone ?_
    | refine S.condT rfl ?_
    | refine S.condF rfl ?_
    | refine RRun.skip ?_
    | refine RRun.block ?_
    | refine RRun.inBlock ?_
    | refine RRun.exit rfl ?_)
  apply S.ret rr4
  case hx => repeat (first | exact ResAt.nil | apply ResAt.tmp rfl | apply ResAt.cellA rfl (by (repeat' (first | assumption | exact AHeap.set_same _ _ _ | refine AHeap.get_fresh (by assumption) ?_ | (refine (AHeap.set_other _ _ ?_).trans ?_; first | exact (AHeap.fresh_set (by assumption)).1 | exact Ne.symm (AHeap.fresh_set (by assumption)).1 | exact AHeap.ne_of (by assumption) (by assumption) | exact Ne.symm (AHeap.ne_of (by assumption) (by assumption)) | exact (AHeap.fresh_set (AHeap.fresh_set (by assumption)).2).1 | exact Ne.symm (AHeap.fresh_set (AHeap.fresh_set (by assumption)).2).1 | exact AHeap.ne_of (AHeap.fresh_set (by assumption)).2 (by assumption) | exact Ne.symm (AHeap.ne_of (AHeap.fresh_set (by assumption)).2 (by assumption)) | assumption | skip) | exact (AHeap.fresh_set (by assumption)).1 | exact Ne.symm (AHeap.fresh_set (by assumption)).1 | exact AHeap.ne_of (by assumption) (by assumption) | exact Ne.symm (AHeap.ne_of (by assumption) (by assumption)) | exact (AHeap.fresh_set (AHeap.fresh_set (by assumption)).2).1 | exact Ne.symm (AHeap.fresh_set (AHeap.fresh_set (by assumption)).2).1 | exact AHeap.ne_of (AHeap.fresh_set (by assumption)).2 (by assumption) | exact Ne.symm (AHeap.ne_of (AHeap.fresh_set (by assumption)).2 (by assumption)))); first | done | fail) (by rfl) | apply ResAt.cell1 rfl (by (repeat' (first | assumption | exact AHeap.set_same _ _ _ | refine AHeap.get_fresh (by assumption) ?_ | (refine (AHeap.set_other _ _ ?_).trans ?_; first | exact (AHeap.fresh_set (by assumption)).1 | exact Ne.symm (AHeap.fresh_set (by assumption)).1 | exact AHeap.ne_of (by assumption) (by assumption) | exact Ne.symm (AHeap.ne_of (by assumption) (by assumption)) | exact (AHeap.fresh_set (AHeap.fresh_set (by assumption)).2).1 | exact Ne.symm (AHeap.fresh_set (AHeap.fresh_set (by assumption)).2).1 | exact AHeap.ne_of (AHeap.fresh_set (by assumption)).2 (by assumption) | exact Ne.symm (AHeap.ne_of (AHeap.fresh_set (by assumption)).2 (by assumption)) | assumption | skip) | exact (AHeap.fresh_set (by assumption)).1 | exact Ne.symm (AHeap.fresh_set (by assumption)).1 | exact AHeap.ne_of (by assumption) (by assumption) | exact Ne.symm (AHeap.ne_of (by assumption) (by assumption)) | exact (AHeap.fresh_set (AHeap.fresh_set (by assumption)).2).1 | exact Ne.symm (AHeap.fresh_set (AHeap.fresh_set (by assumption)).2).1 | exact AHeap.ne_of (AHeap.fresh_set (by assumption)).2 (by assumption) | exact Ne.symm (AHeap.ne_of (AHeap.fresh_set (by assumption)).2 (by assumption)))); first | done | fail) (by rfl))
  exact ⟨_, _, .refl _, (H4.alloc _ (by assumption)).le, rfl, rfl⟩

/-- The walk: the law answers true. -/
theorem plain_spec (l : List Msg) (hl : l.length ≤ 9223372036854775807) (hf : ∀ x ∈ l, x.fits) (cut : Bool) (h : AHeap) : ACalls Try.prog 4 [msgs l, bl cut] h (fun x h' => x = bl true ∧ h' = h) := by
  have hlen0 : (l.map Msg.cells).length = l.length := by simp
  obtain ⟨c, hc1, hc2⟩ := res4
  refine ACalls.weak (ACalls.enter Try.func4 hc1 Try.ntmps4 hc2 (Nat.le_of_ble_eq_true rfl) rfl ?_)
  by_cases h30 : l.length ≤ 30
  ·
    repeat' (first
      | refine S.nilK ?_
      | (refine S.op rfl ?_; first
        | refine R.callQ (by decide) rfl (mawake_spec _) ?_
        | refine R.mv rfl ?_
        | refine R.fieldAddr rfl ?_
        | refine R.fieldAddrR rfl ?_
        | refine R.nilCheck rfl ?_
        | refine R.nilCheckR rfl ?_
        | refine R.loadR rfl rfl ?_
        | refine R.load (by decide) rfl (by (repeat' (first | assumption | exact AHeap.set_same _ _ _ | refine AHeap.get_fresh (by assumption) ?_ | (refine (AHeap.set_other _ _ ?_).trans ?_; first | exact (AHeap.fresh_set (by assumption)).1 | exact Ne.symm (AHeap.fresh_set (by assumption)).1 | exact AHeap.ne_of (by assumption) (by assumption) | exact Ne.symm (AHeap.ne_of (by assumption) (by assumption)) | exact (AHeap.fresh_set (AHeap.fresh_set (by assumption)).2).1 | exact Ne.symm (AHeap.fresh_set (AHeap.fresh_set (by assumption)).2).1 | exact AHeap.ne_of (AHeap.fresh_set (by assumption)).2 (by assumption) | exact Ne.symm (AHeap.ne_of (AHeap.fresh_set (by assumption)).2 (by assumption)) | assumption | skip) | exact (AHeap.fresh_set (by assumption)).1 | exact Ne.symm (AHeap.fresh_set (by assumption)).1 | exact AHeap.ne_of (by assumption) (by assumption) | exact Ne.symm (AHeap.ne_of (by assumption) (by assumption)) | exact (AHeap.fresh_set (AHeap.fresh_set (by assumption)).2).1 | exact Ne.symm (AHeap.fresh_set (AHeap.fresh_set (by assumption)).2).1 | exact AHeap.ne_of (AHeap.fresh_set (by assumption)).2 (by assumption) | exact Ne.symm (AHeap.ne_of (AHeap.fresh_set (by assumption)).2 (by assumption)))); first | done | fail) rfl ?_
        | refine S.addI rfl rfl (by omega) ?_
        | refine S.subI rfl rfl (by omega) ?_
        | refine S.addU rfl rfl ?_
        | refine S.subU rfl rfl ?_
        | refine S.addUc rfl (by decide) ?_
        | refine S.subUc rfl (by decide) ?_
        | refine S.arith rfl rfl rfl ?_
        | refine R.pickT rfl rfl ?_
        | refine R.pickF rfl rfl ?_
        | refine R.len rfl ?_
        | refine R.lenA rfl ?_
        | refine R.lenStr rfl ?_
        | refine S.convIU rfl (by omega) ?_
        | refine S.convUI rfl (by omega) ?_
        | refine R.convInt rfl ?_
        | refine R.not rfl ?_
        | refine R.eqPtrNil rfl rfl ?_
        | refine R.extract rfl rfl ?_
        | refine R.field rfl rfl ?_
        | refine R.alloc rfl (fun b hb => ?_)
        | refine R.box rfl rfl rfl (fun b hb => ?_)
        | refine R.build rfl rfl ?_
        | refine R.buildSl rfl rfl rfl (by decide) ?_
        | refine R.toStr rfl ?_
        | refine R.convStr rfl ?_
        | refine R.minmax rfl ?_
        | refine R.makeFunc rfl rfl ?_
        | (first | refine S.lss rfl rfl (fun hlt => ?_) (fun hlt => by exfalso; omega) | refine S.lss rfl rfl (fun hlt => by exfalso; omega) (fun hlt => ?_) | refine S.lss rfl rfl (fun hlt => ?_) (fun hlt => ?_))
        | (first | refine S.gtr rfl rfl (fun hlt => ?_) (fun hlt => by exfalso; omega) | refine S.gtr rfl rfl (fun hlt => by exfalso; omega) (fun hlt => ?_) | refine S.gtr rfl rfl (fun hlt => ?_) (fun hlt => ?_))
        | (first | refine S.leq rfl rfl (fun hlt => ?_) (fun hlt => by exfalso; omega) | refine S.leq rfl rfl (fun hlt => by exfalso; omega) (fun hlt => ?_) | refine S.leq rfl rfl (fun hlt => ?_) (fun hlt => ?_))
        | (first | refine S.geq rfl rfl (fun hlt => ?_) (fun hlt => by exfalso; omega) | refine S.geq rfl rfl (fun hlt => by exfalso; omega) (fun hlt => ?_) | refine S.geq rfl rfl (fun hlt => ?_) (fun hlt => ?_))
        | (first | refine S.eqInt rfl rfl (fun hlt => ?_) (fun hlt => by exfalso; omega) | refine S.eqInt rfl rfl (fun hlt => by exfalso; omega) (fun hlt => ?_) | refine S.eqInt rfl rfl (fun hlt => ?_) (fun hlt => ?_)))
      | (refine S.op0 rfl ?_; first | refine S.storeS rfl rfl rfl (by rfl) rfl (by first | decide | exact Nat.le_refl _ | exact Nat.le_of_ble_eq_true rfl) ?_ | refine S.store rfl rfl (by (repeat' (first | assumption | exact AHeap.set_same _ _ _ | refine AHeap.get_fresh (by assumption) ?_ | (refine (AHeap.set_other _ _ ?_).trans ?_; first | exact (AHeap.fresh_set (by assumption)).1 | exact Ne.symm (AHeap.fresh_set (by assumption)).1 | exact AHeap.ne_of (by assumption) (by assumption) | exact Ne.symm (AHeap.ne_of (by assumption) (by assumption)) | exact (AHeap.fresh_set (AHeap.fresh_set (by assumption)).2).1 | exact Ne.symm (AHeap.fresh_set (AHeap.fresh_set (by assumption)).2).1 | exact AHeap.ne_of (AHeap.fresh_set (by assumption)).2 (by assumption) | exact Ne.symm (AHeap.ne_of (AHeap.fresh_set (by assumption)).2 (by assumption)) | assumption | skip) | exact (AHeap.fresh_set (by assumption)).1 | exact Ne.symm (AHeap.fresh_set (by assumption)).1 | exact AHeap.ne_of (by assumption) (by assumption) | exact Ne.symm (AHeap.ne_of (by assumption) (by assumption)) | exact (AHeap.fresh_set (AHeap.fresh_set (by assumption)).2).1 | exact Ne.symm (AHeap.fresh_set (AHeap.fresh_set (by assumption)).2).1 | exact AHeap.ne_of (AHeap.fresh_set (by assumption)).2 (by assumption) | exact Ne.symm (AHeap.ne_of (AHeap.fresh_set (by assumption)).2 (by assumption)))); first | done | fail) rfl rfl rfl (by rfl) rfl ?_)
      | refine S.skip rfl ?_
      | refine S.skip0 rfl ?_
      | refine S.seq ?_
      | refine S.region ?_
      | refine S.regionT ?_
      | refine S.tstep ?_
      | refine S.talt ?_ ?_
      | exact S.tstop
      | refine S.tdone ?_
      | refine S.condT rfl ?_
      | refine S.condF rfl ?_
      | refine RRun.skip ?_
      | refine RRun.block ?_
      | refine RRun.inBlock ?_
      | refine RRun.exit rfl ?_)
    refine S.op rfl (R.call rfl rfl (ACalls.mono (ACalls.args (mnew_spec [] (by decide) h) (.cons (.nilSl 2 (c := .ro) trivial) .nil)) ?_))
    rintro _ h1 ⟨p, bm, rfl, H⟩
    cases cut with
    | false =>
      repeat' (first
        | (exact S.keep [0, 1, 5] rfl (plain_tail l h30 hf false H rfl rfl rfl rfl rfl))
        | refine S.nilK ?_
        | (refine S.op rfl ?_; first
          | refine R.mv rfl ?_
          | refine R.fieldAddr rfl ?_
          | refine R.fieldAddrR rfl ?_
          | refine R.nilCheck rfl ?_
          | refine R.nilCheckR rfl ?_
          | refine R.loadR rfl rfl ?_
          | refine R.load (by decide) rfl (by (repeat' (first | assumption | exact AHeap.set_same _ _ _ | refine AHeap.get_fresh (by assumption) ?_ | (refine (AHeap.set_other _ _ ?_).trans ?_; first | exact (AHeap.fresh_set (by assumption)).1 | exact Ne.symm (AHeap.fresh_set (by assumption)).1 | exact AHeap.ne_of (by assumption) (by assumption) | exact Ne.symm (AHeap.ne_of (by assumption) (by assumption)) | exact (AHeap.fresh_set (AHeap.fresh_set (by assumption)).2).1 | exact Ne.symm (AHeap.fresh_set (AHeap.fresh_set (by assumption)).2).1 | exact AHeap.ne_of (AHeap.fresh_set (by assumption)).2 (by assumption) | exact Ne.symm (AHeap.ne_of (AHeap.fresh_set (by assumption)).2 (by assumption)) | assumption | skip) | exact (AHeap.fresh_set (by assumption)).1 | exact Ne.symm (AHeap.fresh_set (by assumption)).1 | exact AHeap.ne_of (by assumption) (by assumption) | exact Ne.symm (AHeap.ne_of (by assumption) (by assumption)) | exact (AHeap.fresh_set (AHeap.fresh_set (by assumption)).2).1 | exact Ne.symm (AHeap.fresh_set (AHeap.fresh_set (by assumption)).2).1 | exact AHeap.ne_of (AHeap.fresh_set (by assumption)).2 (by assumption) | exact Ne.symm (AHeap.ne_of (AHeap.fresh_set (by assumption)).2 (by assumption)))); first | done | fail) rfl ?_
          | refine S.addI rfl rfl (by omega) ?_
          | refine S.subI rfl rfl (by omega) ?_
          | refine S.addU rfl rfl ?_
          | refine S.subU rfl rfl ?_
          | refine S.addUc rfl (by decide) ?_
          | refine S.subUc rfl (by decide) ?_
          | refine S.arith rfl rfl rfl ?_
          | refine R.pickT rfl rfl ?_
          | refine R.pickF rfl rfl ?_
          | refine R.len rfl ?_
          | refine R.lenA rfl ?_
          | refine R.lenStr rfl ?_
          | refine S.convIU rfl (by omega) ?_
          | refine S.convUI rfl (by omega) ?_
          | refine R.convInt rfl ?_
          | refine R.not rfl ?_
          | refine R.eqPtrNil rfl rfl ?_
          | refine R.extract rfl rfl ?_
          | refine R.field rfl rfl ?_
          | refine R.alloc rfl (fun b hb => ?_)
          | refine R.box rfl rfl rfl (fun b hb => ?_)
          | refine R.build rfl rfl ?_
          | refine R.buildSl rfl rfl rfl (by decide) ?_
          | refine R.toStr rfl ?_
          | refine R.convStr rfl ?_
          | refine R.minmax rfl ?_
          | refine R.makeFunc rfl rfl ?_
          | (first | refine S.lss rfl rfl (fun hlt => ?_) (fun hlt => by exfalso; omega) | refine S.lss rfl rfl (fun hlt => by exfalso; omega) (fun hlt => ?_) | refine S.lss rfl rfl (fun hlt => ?_) (fun hlt => ?_))
          | (first | refine S.gtr rfl rfl (fun hlt => ?_) (fun hlt => by exfalso; omega) | refine S.gtr rfl rfl (fun hlt => by exfalso; omega) (fun hlt => ?_) | refine S.gtr rfl rfl (fun hlt => ?_) (fun hlt => ?_))
          | (first | refine S.leq rfl rfl (fun hlt => ?_) (fun hlt => by exfalso; omega) | refine S.leq rfl rfl (fun hlt => by exfalso; omega) (fun hlt => ?_) | refine S.leq rfl rfl (fun hlt => ?_) (fun hlt => ?_))
          | (first | refine S.geq rfl rfl (fun hlt => ?_) (fun hlt => by exfalso; omega) | refine S.geq rfl rfl (fun hlt => by exfalso; omega) (fun hlt => ?_) | refine S.geq rfl rfl (fun hlt => ?_) (fun hlt => ?_))
          | (first | refine S.eqInt rfl rfl (fun hlt => ?_) (fun hlt => by exfalso; omega) | refine S.eqInt rfl rfl (fun hlt => by exfalso; omega) (fun hlt => ?_) | refine S.eqInt rfl rfl (fun hlt => ?_) (fun hlt => ?_)))
        | (refine S.op0 rfl ?_; first | refine S.storeS rfl rfl rfl (by rfl) rfl (by first | decide | exact Nat.le_refl _ | exact Nat.le_of_ble_eq_true rfl) ?_ | refine S.store rfl rfl (by (repeat' (first | assumption | exact AHeap.set_same _ _ _ | refine AHeap.get_fresh (by assumption) ?_ | (refine (AHeap.set_other _ _ ?_).trans ?_; first | exact (AHeap.fresh_set (by assumption)).1 | exact Ne.symm (AHeap.fresh_set (by assumption)).1 | exact AHeap.ne_of (by assumption) (by assumption) | exact Ne.symm (AHeap.ne_of (by assumption) (by assumption)) | exact (AHeap.fresh_set (AHeap.fresh_set (by assumption)).2).1 | exact Ne.symm (AHeap.fresh_set (AHeap.fresh_set (by assumption)).2).1 | exact AHeap.ne_of (AHeap.fresh_set (by assumption)).2 (by assumption) | exact Ne.symm (AHeap.ne_of (AHeap.fresh_set (by assumption)).2 (by assumption)) | assumption | skip) | exact (AHeap.fresh_set (by assumption)).1 | exact Ne.symm (AHeap.fresh_set (by assumption)).1 | exact AHeap.ne_of (by assumption) (by assumption) | exact Ne.symm (AHeap.ne_of (by assumption) (by assumption)) | exact (AHeap.fresh_set (AHeap.fresh_set (by assumption)).2).1 | exact Ne.symm (AHeap.fresh_set (AHeap.fresh_set (by assumption)).2).1 | exact AHeap.ne_of (AHeap.fresh_set (by assumption)).2 (by assumption) | exact Ne.symm (AHeap.ne_of (AHeap.fresh_set (by assumption)).2 (by assumption)))); first | done | fail) rfl rfl rfl (by rfl) rfl ?_)
        | refine S.skip rfl ?_
        | refine S.skip0 rfl ?_
        | refine S.seq ?_
        | refine S.region ?_
        | refine S.regionT ?_
        | refine S.tstep ?_
        | refine S.talt ?_ ?_
        | exact S.tstop
        | refine S.tdone ?_
        | refine S.condT rfl ?_
        | refine S.condF rfl ?_
        | refine RRun.skip ?_
        | refine RRun.block ?_
        | refine RRun.inBlock ?_
        | refine RRun.exit rfl ?_)
    | true => cases l with
      | nil =>
        have e0 : ([] : List Msg).length = 0 := rfl
        repeat' (first
          | (exact S.keep [0, 1, 5] rfl (plain_tail [] h30 hf true H rfl rfl rfl rfl rfl))
          | refine S.nilK ?_
          | (refine S.op rfl ?_; first
            | refine R.mv rfl ?_
            | refine R.fieldAddr rfl ?_
            | refine R.fieldAddrR rfl ?_
            | refine R.nilCheck rfl ?_
            | refine R.nilCheckR rfl ?_
            | refine R.loadR rfl rfl ?_
            | refine R.load (by decide) rfl (by (repeat' (first | assumption | exact AHeap.set_same _ _ _ | refine AHeap.get_fresh (by assumption) ?_ | (refine (AHeap.set_other _ _ ?_).trans ?_; first | exact (AHeap.fresh_set (by assumption)).1 | exact Ne.symm (AHeap.fresh_set (by assumption)).1 | exact AHeap.ne_of (by assumption) (by assumption) | exact Ne.symm (AHeap.ne_of (by assumption) (by assumption)) | exact (AHeap.fresh_set (AHeap.fresh_set (by assumption)).2).1 | exact Ne.symm (AHeap.fresh_set (AHeap.fresh_set (by assumption)).2).1 | exact AHeap.ne_of (AHeap.fresh_set (by assumption)).2 (by assumption) | exact Ne.symm (AHeap.ne_of (AHeap.fresh_set (by assumption)).2 (by assumption)) | assumption | skip) | exact (AHeap.fresh_set (by assumption)).1 | exact Ne.symm (AHeap.fresh_set (by assumption)).1 | exact AHeap.ne_of (by assumption) (by assumption) | exact Ne.symm (AHeap.ne_of (by assumption) (by assumption)) | exact (AHeap.fresh_set (AHeap.fresh_set (by assumption)).2).1 | exact Ne.symm (AHeap.fresh_set (AHeap.fresh_set (by assumption)).2).1 | exact AHeap.ne_of (AHeap.fresh_set (by assumption)).2 (by assumption) | exact Ne.symm (AHeap.ne_of (AHeap.fresh_set (by assumption)).2 (by assumption)))); first | done | fail) rfl ?_
            | refine S.addI rfl rfl (by omega) ?_
            | refine S.subI rfl rfl (by omega) ?_
            | refine S.addU rfl rfl ?_
            | refine S.subU rfl rfl ?_
            | refine S.addUc rfl (by decide) ?_
            | refine S.subUc rfl (by decide) ?_
            | refine S.arith rfl rfl rfl ?_
            | refine R.pickT rfl rfl ?_
            | refine R.pickF rfl rfl ?_
            | refine R.len rfl ?_
            | refine R.lenA rfl ?_
            | refine R.lenStr rfl ?_
            | refine S.convIU rfl (by omega) ?_
            | refine S.convUI rfl (by omega) ?_
            | refine R.convInt rfl ?_
            | refine R.not rfl ?_
            | refine R.eqPtrNil rfl rfl ?_
            | refine R.extract rfl rfl ?_
            | refine R.field rfl rfl ?_
            | refine R.alloc rfl (fun b hb => ?_)
            | refine R.box rfl rfl rfl (fun b hb => ?_)
            | refine R.build rfl rfl ?_
            | refine R.buildSl rfl rfl rfl (by decide) ?_
            | refine R.toStr rfl ?_
            | refine R.convStr rfl ?_
            | refine R.minmax rfl ?_
            | refine R.makeFunc rfl rfl ?_
            | (first | refine S.lss rfl rfl (fun hlt => ?_) (fun hlt => by exfalso; omega) | refine S.lss rfl rfl (fun hlt => by exfalso; omega) (fun hlt => ?_) | refine S.lss rfl rfl (fun hlt => ?_) (fun hlt => ?_))
            | (first | refine S.gtr rfl rfl (fun hlt => ?_) (fun hlt => by exfalso; omega) | refine S.gtr rfl rfl (fun hlt => by exfalso; omega) (fun hlt => ?_) | refine S.gtr rfl rfl (fun hlt => ?_) (fun hlt => ?_))
            | (first | refine S.leq rfl rfl (fun hlt => ?_) (fun hlt => by exfalso; omega) | refine S.leq rfl rfl (fun hlt => by exfalso; omega) (fun hlt => ?_) | refine S.leq rfl rfl (fun hlt => ?_) (fun hlt => ?_))
            | (first | refine S.geq rfl rfl (fun hlt => ?_) (fun hlt => by exfalso; omega) | refine S.geq rfl rfl (fun hlt => by exfalso; omega) (fun hlt => ?_) | refine S.geq rfl rfl (fun hlt => ?_) (fun hlt => ?_))
            | (first | refine S.eqInt rfl rfl (fun hlt => ?_) (fun hlt => by exfalso; omega) | refine S.eqInt rfl rfl (fun hlt => by exfalso; omega) (fun hlt => ?_) | refine S.eqInt rfl rfl (fun hlt => ?_) (fun hlt => ?_)))
          | (refine S.op0 rfl ?_; first | refine S.storeS rfl rfl rfl (by rfl) rfl (by first | decide | exact Nat.le_refl _ | exact Nat.le_of_ble_eq_true rfl) ?_ | refine S.store rfl rfl (by (repeat' (first | assumption | exact AHeap.set_same _ _ _ | refine AHeap.get_fresh (by assumption) ?_ | (refine (AHeap.set_other _ _ ?_).trans ?_; first | exact (AHeap.fresh_set (by assumption)).1 | exact Ne.symm (AHeap.fresh_set (by assumption)).1 | exact AHeap.ne_of (by assumption) (by assumption) | exact Ne.symm (AHeap.ne_of (by assumption) (by assumption)) | exact (AHeap.fresh_set (AHeap.fresh_set (by assumption)).2).1 | exact Ne.symm (AHeap.fresh_set (AHeap.fresh_set (by assumption)).2).1 | exact AHeap.ne_of (AHeap.fresh_set (by assumption)).2 (by assumption) | exact Ne.symm (AHeap.ne_of (AHeap.fresh_set (by assumption)).2 (by assumption)) | assumption | skip) | exact (AHeap.fresh_set (by assumption)).1 | exact Ne.symm (AHeap.fresh_set (by assumption)).1 | exact AHeap.ne_of (by assumption) (by assumption) | exact Ne.symm (AHeap.ne_of (by assumption) (by assumption)) | exact (AHeap.fresh_set (AHeap.fresh_set (by assumption)).2).1 | exact Ne.symm (AHeap.fresh_set (AHeap.fresh_set (by assumption)).2).1 | exact AHeap.ne_of (AHeap.fresh_set (by assumption)).2 (by assumption) | exact Ne.symm (AHeap.ne_of (AHeap.fresh_set (by assumption)).2 (by assumption)))); first | done | fail) rfl rfl rfl (by rfl) rfl ?_)
          | refine S.skip rfl ?_
          | refine S.skip0 rfl ?_
          | refine S.seq ?_
          | refine S.region ?_
          | refine S.regionT ?_
          | refine S.tstep ?_
          | refine S.talt ?_ ?_
          | exact S.tstop
          | refine S.tdone ?_
          | refine S.condT rfl ?_
          | refine S.condF rfl ?_
          | refine RRun.skip ?_
          | refine RRun.block ?_
          | refine RRun.inBlock ?_
          | refine RRun.exit rfl ?_)
      | cons a r =>
        have hg0 : ((a :: r).map Msg.cells)[(0 : Int).toNat]? = some a.cells := rfl
        have e0 : (a :: r).length = r.length + 1 := rfl
        repeat' (first
          | refine S.nilK ?_
          | (refine S.op rfl ?_; first
            | refine R.indexAddr rfl rfl (by omega) hg0 ?_
            | refine R.mv rfl ?_
            | refine R.fieldAddr rfl ?_
            | refine R.fieldAddrR rfl ?_
            | refine R.nilCheck rfl ?_
            | refine R.nilCheckR rfl ?_
            | refine R.loadR rfl rfl ?_
            | refine R.load (by decide) rfl (by (repeat' (first | assumption | exact AHeap.set_same _ _ _ | refine AHeap.get_fresh (by assumption) ?_ | (refine (AHeap.set_other _ _ ?_).trans ?_; first | exact (AHeap.fresh_set (by assumption)).1 | exact Ne.symm (AHeap.fresh_set (by assumption)).1 | exact AHeap.ne_of (by assumption) (by assumption) | exact Ne.symm (AHeap.ne_of (by assumption) (by assumption)) | exact (AHeap.fresh_set (AHeap.fresh_set (by assumption)).2).1 | exact Ne.symm (AHeap.fresh_set (AHeap.fresh_set (by assumption)).2).1 | exact AHeap.ne_of (AHeap.fresh_set (by assumption)).2 (by assumption) | exact Ne.symm (AHeap.ne_of (AHeap.fresh_set (by assumption)).2 (by assumption)) | assumption | skip) | exact (AHeap.fresh_set (by assumption)).1 | exact Ne.symm (AHeap.fresh_set (by assumption)).1 | exact AHeap.ne_of (by assumption) (by assumption) | exact Ne.symm (AHeap.ne_of (by assumption) (by assumption)) | exact (AHeap.fresh_set (AHeap.fresh_set (by assumption)).2).1 | exact Ne.symm (AHeap.fresh_set (AHeap.fresh_set (by assumption)).2).1 | exact AHeap.ne_of (AHeap.fresh_set (by assumption)).2 (by assumption) | exact Ne.symm (AHeap.ne_of (AHeap.fresh_set (by assumption)).2 (by assumption)))); first | done | fail) rfl ?_
            | refine S.addI rfl rfl (by omega) ?_
            | refine S.subI rfl rfl (by omega) ?_
            | refine S.addU rfl rfl ?_
            | refine S.subU rfl rfl ?_
            | refine S.addUc rfl (by decide) ?_
            | refine S.subUc rfl (by decide) ?_
            | refine S.arith rfl rfl rfl ?_
            | refine R.pickT rfl rfl ?_
            | refine R.pickF rfl rfl ?_
            | refine R.len rfl ?_
            | refine R.lenA rfl ?_
            | refine R.lenStr rfl ?_
            | refine S.convIU rfl (by omega) ?_
            | refine S.convUI rfl (by omega) ?_
            | refine R.convInt rfl ?_
            | refine R.not rfl ?_
            | refine R.eqPtrNil rfl rfl ?_
            | refine R.extract rfl rfl ?_
            | refine R.field rfl rfl ?_
            | refine R.alloc rfl (fun b hb => ?_)
            | refine R.box rfl rfl rfl (fun b hb => ?_)
            | refine R.build rfl rfl ?_
            | refine R.buildSl rfl rfl rfl (by decide) ?_
            | refine R.toStr rfl ?_
            | refine R.convStr rfl ?_
            | refine R.minmax rfl ?_
            | refine R.makeFunc rfl rfl ?_
            | (first | refine S.lss rfl rfl (fun hlt => ?_) (fun hlt => by exfalso; omega) | refine S.lss rfl rfl (fun hlt => by exfalso; omega) (fun hlt => ?_) | refine S.lss rfl rfl (fun hlt => ?_) (fun hlt => ?_))
            | (first | refine S.gtr rfl rfl (fun hlt => ?_) (fun hlt => by exfalso; omega) | refine S.gtr rfl rfl (fun hlt => by exfalso; omega) (fun hlt => ?_) | refine S.gtr rfl rfl (fun hlt => ?_) (fun hlt => ?_))
            | (first | refine S.leq rfl rfl (fun hlt => ?_) (fun hlt => by exfalso; omega) | refine S.leq rfl rfl (fun hlt => by exfalso; omega) (fun hlt => ?_) | refine S.leq rfl rfl (fun hlt => ?_) (fun hlt => ?_))
            | (first | refine S.geq rfl rfl (fun hlt => ?_) (fun hlt => by exfalso; omega) | refine S.geq rfl rfl (fun hlt => by exfalso; omega) (fun hlt => ?_) | refine S.geq rfl rfl (fun hlt => ?_) (fun hlt => ?_))
            | (first | refine S.eqInt rfl rfl (fun hlt => ?_) (fun hlt => by exfalso; omega) | refine S.eqInt rfl rfl (fun hlt => by exfalso; omega) (fun hlt => ?_) | refine S.eqInt rfl rfl (fun hlt => ?_) (fun hlt => ?_)))
          | (refine S.op0 rfl ?_; first | refine S.storeS rfl rfl rfl (by rfl) rfl (by first | decide | exact Nat.le_refl _ | exact Nat.le_of_ble_eq_true rfl) ?_ | refine S.store rfl rfl (by (repeat' (first | assumption | exact AHeap.set_same _ _ _ | refine AHeap.get_fresh (by assumption) ?_ | (refine (AHeap.set_other _ _ ?_).trans ?_; first | exact (AHeap.fresh_set (by assumption)).1 | exact Ne.symm (AHeap.fresh_set (by assumption)).1 | exact AHeap.ne_of (by assumption) (by assumption) | exact Ne.symm (AHeap.ne_of (by assumption) (by assumption)) | exact (AHeap.fresh_set (AHeap.fresh_set (by assumption)).2).1 | exact Ne.symm (AHeap.fresh_set (AHeap.fresh_set (by assumption)).2).1 | exact AHeap.ne_of (AHeap.fresh_set (by assumption)).2 (by assumption) | exact Ne.symm (AHeap.ne_of (AHeap.fresh_set (by assumption)).2 (by assumption)) | assumption | skip) | exact (AHeap.fresh_set (by assumption)).1 | exact Ne.symm (AHeap.fresh_set (by assumption)).1 | exact AHeap.ne_of (by assumption) (by assumption) | exact Ne.symm (AHeap.ne_of (by assumption) (by assumption)) | exact (AHeap.fresh_set (AHeap.fresh_set (by assumption)).2).1 | exact Ne.symm (AHeap.fresh_set (AHeap.fresh_set (by assumption)).2).1 | exact AHeap.ne_of (AHeap.fresh_set (by assumption)).2 (by assumption) | exact Ne.symm (AHeap.ne_of (AHeap.fresh_set (by assumption)).2 (by assumption)))); first | done | fail) rfl rfl rfl (by rfl) rfl ?_)
          | refine S.skip rfl ?_
          | refine S.skip0 rfl ?_
          | refine S.seq ?_
          | refine S.region ?_
          | refine S.regionT ?_
          | refine S.tstep ?_
          | refine S.talt ?_ ?_
          | exact S.tstop
          | refine S.tdone ?_
          | refine S.condT rfl ?_
          | refine S.condF rfl ?_
          | refine RRun.skip ?_
          | refine RRun.block ?_
          | refine RRun.inBlock ?_
          | refine RRun.exit rfl ?_)
        refine S.op rfl (R.call rfl rfl (ACalls.mono (cut_spec H a.dst a.src true) ?_))
        intro y h2 H2
        repeat' (first
          | (exact S.keep [0, 1, 5] rfl (plain_tail (a :: r) h30 hf true H2 rfl rfl rfl rfl rfl))
          | refine S.nilK ?_
          | (refine S.op rfl ?_; first
            | refine R.mv rfl ?_
            | refine R.fieldAddr rfl ?_
            | refine R.fieldAddrR rfl ?_
            | refine R.nilCheck rfl ?_
            | refine R.nilCheckR rfl ?_
            | refine R.loadR rfl rfl ?_
            | refine R.load (by decide) rfl (by (repeat' (first | assumption | exact AHeap.set_same _ _ _ | refine AHeap.get_fresh (by assumption) ?_ | (refine (AHeap.set_other _ _ ?_).trans ?_; first | exact (AHeap.fresh_set (by assumption)).1 | exact Ne.symm (AHeap.fresh_set (by assumption)).1 | exact AHeap.ne_of (by assumption) (by assumption) | exact Ne.symm (AHeap.ne_of (by assumption) (by assumption)) | exact (AHeap.fresh_set (AHeap.fresh_set (by assumption)).2).1 | exact Ne.symm (AHeap.fresh_set (AHeap.fresh_set (by assumption)).2).1 | exact AHeap.ne_of (AHeap.fresh_set (by assumption)).2 (by assumption) | exact Ne.symm (AHeap.ne_of (AHeap.fresh_set (by assumption)).2 (by assumption)) | assumption | skip) | exact (AHeap.fresh_set (by assumption)).1 | exact Ne.symm (AHeap.fresh_set (by assumption)).1 | exact AHeap.ne_of (by assumption) (by assumption) | exact Ne.symm (AHeap.ne_of (by assumption) (by assumption)) | exact (AHeap.fresh_set (AHeap.fresh_set (by assumption)).2).1 | exact Ne.symm (AHeap.fresh_set (AHeap.fresh_set (by assumption)).2).1 | exact AHeap.ne_of (AHeap.fresh_set (by assumption)).2 (by assumption) | exact Ne.symm (AHeap.ne_of (AHeap.fresh_set (by assumption)).2 (by assumption)))); first | done | fail) rfl ?_
            | refine S.addI rfl rfl (by omega) ?_
            | refine S.subI rfl rfl (by omega) ?_
            | refine S.addU rfl rfl ?_
            | refine S.subU rfl rfl ?_
            | refine S.addUc rfl (by decide) ?_
            | refine S.subUc rfl (by decide) ?_
            | refine S.arith rfl rfl rfl ?_
            | refine R.pickT rfl rfl ?_
            | refine R.pickF rfl rfl ?_
            | refine R.len rfl ?_
            | refine R.lenA rfl ?_
            | refine R.lenStr rfl ?_
            | refine S.convIU rfl (by omega) ?_
            | refine S.convUI rfl (by omega) ?_
            | refine R.convInt rfl ?_
            | refine R.not rfl ?_
            | refine R.eqPtrNil rfl rfl ?_
            | refine R.extract rfl rfl ?_
            | refine R.field rfl rfl ?_
            | refine R.alloc rfl (fun b hb => ?_)
            | refine R.box rfl rfl rfl (fun b hb => ?_)
            | refine R.build rfl rfl ?_
            | refine R.buildSl rfl rfl rfl (by decide) ?_
            | refine R.toStr rfl ?_
            | refine R.convStr rfl ?_
            | refine R.minmax rfl ?_
            | refine R.makeFunc rfl rfl ?_
            | (first | refine S.lss rfl rfl (fun hlt => ?_) (fun hlt => by exfalso; omega) | refine S.lss rfl rfl (fun hlt => by exfalso; omega) (fun hlt => ?_) | refine S.lss rfl rfl (fun hlt => ?_) (fun hlt => ?_))
            | (first | refine S.gtr rfl rfl (fun hlt => ?_) (fun hlt => by exfalso; omega) | refine S.gtr rfl rfl (fun hlt => by exfalso; omega) (fun hlt => ?_) | refine S.gtr rfl rfl (fun hlt => ?_) (fun hlt => ?_))
            | (first | refine S.leq rfl rfl (fun hlt => ?_) (fun hlt => by exfalso; omega) | refine S.leq rfl rfl (fun hlt => by exfalso; omega) (fun hlt => ?_) | refine S.leq rfl rfl (fun hlt => ?_) (fun hlt => ?_))
            | (first | refine S.geq rfl rfl (fun hlt => ?_) (fun hlt => by exfalso; omega) | refine S.geq rfl rfl (fun hlt => by exfalso; omega) (fun hlt => ?_) | refine S.geq rfl rfl (fun hlt => ?_) (fun hlt => ?_))
            | (first | refine S.eqInt rfl rfl (fun hlt => ?_) (fun hlt => by exfalso; omega) | refine S.eqInt rfl rfl (fun hlt => by exfalso; omega) (fun hlt => ?_) | refine S.eqInt rfl rfl (fun hlt => ?_) (fun hlt => ?_)))
          | (refine S.op0 rfl ?_; first | refine S.storeS rfl rfl rfl (by rfl) rfl (by first | decide | exact Nat.le_refl _ | exact Nat.le_of_ble_eq_true rfl) ?_ | refine S.store rfl rfl (by (repeat' (first | assumption | exact AHeap.set_same _ _ _ | refine AHeap.get_fresh (by assumption) ?_ | (refine (AHeap.set_other _ _ ?_).trans ?_; first | exact (AHeap.fresh_set (by assumption)).1 | exact Ne.symm (AHeap.fresh_set (by assumption)).1 | exact AHeap.ne_of (by assumption) (by assumption) | exact Ne.symm (AHeap.ne_of (by assumption) (by assumption)) | exact (AHeap.fresh_set (AHeap.fresh_set (by assumption)).2).1 | exact Ne.symm (AHeap.fresh_set (AHeap.fresh_set (by assumption)).2).1 | exact AHeap.ne_of (AHeap.fresh_set (by assumption)).2 (by assumption) | exact Ne.symm (AHeap.ne_of (AHeap.fresh_set (by assumption)).2 (by assumption)) | assumption | skip) | exact (AHeap.fresh_set (by assumption)).1 | exact Ne.symm (AHeap.fresh_set (by assumption)).1 | exact AHeap.ne_of (by assumption) (by assumption) | exact Ne.symm (AHeap.ne_of (by assumption) (by assumption)) | exact (AHeap.fresh_set (AHeap.fresh_set (by assumption)).2).1 | exact Ne.symm (AHeap.fresh_set (AHeap.fresh_set (by assumption)).2).1 | exact AHeap.ne_of (AHeap.fresh_set (by assumption)).2 (by assumption) | exact Ne.symm (AHeap.ne_of (AHeap.fresh_set (by assumption)).2 (by assumption)))); first | done | fail) rfl rfl rfl (by rfl) rfl ?_)
          | refine S.skip rfl ?_
          | refine S.skip0 rfl ?_
          | refine S.seq ?_
          | refine S.region ?_
          | refine S.regionT ?_
          | refine S.tstep ?_
          | refine S.talt ?_ ?_
          | exact S.tstop
          | refine S.tdone ?_
          | refine S.condT rfl ?_
          | refine S.condF rfl ?_
          | refine RRun.skip ?_
          | refine RRun.block ?_
          | refine RRun.inBlock ?_
          | refine RRun.exit rfl ?_)
  ·
    repeat' (first
      | refine S.nilK ?_
      | (refine S.op rfl ?_; first
        | refine R.callQ (by decide) rfl (mawake_spec _) ?_
        | refine R.mv rfl ?_
        | refine R.fieldAddr rfl ?_
        | refine R.fieldAddrR rfl ?_
        | refine R.nilCheck rfl ?_
        | refine R.nilCheckR rfl ?_
        | refine R.loadR rfl rfl ?_
        | refine R.load (by decide) rfl (by (repeat' (first | assumption | exact AHeap.set_same _ _ _ | refine AHeap.get_fresh (by assumption) ?_ | (refine (AHeap.set_other _ _ ?_).trans ?_; first | exact (AHeap.fresh_set (by assumption)).1 | exact Ne.symm (AHeap.fresh_set (by assumption)).1 | exact AHeap.ne_of (by assumption) (by assumption) | exact Ne.symm (AHeap.ne_of (by assumption) (by assumption)) | exact (AHeap.fresh_set (AHeap.fresh_set (by assumption)).2).1 | exact Ne.symm (AHeap.fresh_set (AHeap.fresh_set (by assumption)).2).1 | exact AHeap.ne_of (AHeap.fresh_set (by assumption)).2 (by assumption) | exact Ne.symm (AHeap.ne_of (AHeap.fresh_set (by assumption)).2 (by assumption)) | assumption | skip) | exact (AHeap.fresh_set (by assumption)).1 | exact Ne.symm (AHeap.fresh_set (by assumption)).1 | exact AHeap.ne_of (by assumption) (by assumption) | exact Ne.symm (AHeap.ne_of (by assumption) (by assumption)) | exact (AHeap.fresh_set (AHeap.fresh_set (by assumption)).2).1 | exact Ne.symm (AHeap.fresh_set (AHeap.fresh_set (by assumption)).2).1 | exact AHeap.ne_of (AHeap.fresh_set (by assumption)).2 (by assumption) | exact Ne.symm (AHeap.ne_of (AHeap.fresh_set (by assumption)).2 (by assumption)))); first | done | fail) rfl ?_
        | refine S.addI rfl rfl (by omega) ?_
        | refine S.subI rfl rfl (by omega) ?_
        | refine S.addU rfl rfl ?_
        | refine S.subU rfl rfl ?_
        | refine S.addUc rfl (by decide) ?_
        | refine S.subUc rfl (by decide) ?_
        | refine S.arith rfl rfl rfl ?_
        | refine R.pickT rfl rfl ?_
        | refine R.pickF rfl rfl ?_
        | refine R.len rfl ?_
        | refine R.lenA rfl ?_
        | refine R.lenStr rfl ?_
        | refine S.convIU rfl (by omega) ?_
        | refine S.convUI rfl (by omega) ?_
        | refine R.convInt rfl ?_
        | refine R.not rfl ?_
        | refine R.eqPtrNil rfl rfl ?_
        | refine R.extract rfl rfl ?_
        | refine R.field rfl rfl ?_
        | refine R.alloc rfl (fun b hb => ?_)
        | refine R.box rfl rfl rfl (fun b hb => ?_)
        | refine R.build rfl rfl ?_
        | refine R.buildSl rfl rfl rfl (by decide) ?_
        | refine R.toStr rfl ?_
        | refine R.convStr rfl ?_
        | refine R.minmax rfl ?_
        | refine R.makeFunc rfl rfl ?_
        | (first | refine S.lss rfl rfl (fun hlt => ?_) (fun hlt => by exfalso; omega) | refine S.lss rfl rfl (fun hlt => by exfalso; omega) (fun hlt => ?_) | refine S.lss rfl rfl (fun hlt => ?_) (fun hlt => ?_))
        | (first | refine S.gtr rfl rfl (fun hlt => ?_) (fun hlt => by exfalso; omega) | refine S.gtr rfl rfl (fun hlt => by exfalso; omega) (fun hlt => ?_) | refine S.gtr rfl rfl (fun hlt => ?_) (fun hlt => ?_))
        | (first | refine S.leq rfl rfl (fun hlt => ?_) (fun hlt => by exfalso; omega) | refine S.leq rfl rfl (fun hlt => by exfalso; omega) (fun hlt => ?_) | refine S.leq rfl rfl (fun hlt => ?_) (fun hlt => ?_))
        | (first | refine S.geq rfl rfl (fun hlt => ?_) (fun hlt => by exfalso; omega) | refine S.geq rfl rfl (fun hlt => by exfalso; omega) (fun hlt => ?_) | refine S.geq rfl rfl (fun hlt => ?_) (fun hlt => ?_))
        | (first | refine S.eqInt rfl rfl (fun hlt => ?_) (fun hlt => by exfalso; omega) | refine S.eqInt rfl rfl (fun hlt => by exfalso; omega) (fun hlt => ?_) | refine S.eqInt rfl rfl (fun hlt => ?_) (fun hlt => ?_)))
      | (refine S.op0 rfl ?_; first | refine S.storeS rfl rfl rfl (by rfl) rfl (by first | decide | exact Nat.le_refl _ | exact Nat.le_of_ble_eq_true rfl) ?_ | refine S.store rfl rfl (by (repeat' (first | assumption | exact AHeap.set_same _ _ _ | refine AHeap.get_fresh (by assumption) ?_ | (refine (AHeap.set_other _ _ ?_).trans ?_; first | exact (AHeap.fresh_set (by assumption)).1 | exact Ne.symm (AHeap.fresh_set (by assumption)).1 | exact AHeap.ne_of (by assumption) (by assumption) | exact Ne.symm (AHeap.ne_of (by assumption) (by assumption)) | exact (AHeap.fresh_set (AHeap.fresh_set (by assumption)).2).1 | exact Ne.symm (AHeap.fresh_set (AHeap.fresh_set (by assumption)).2).1 | exact AHeap.ne_of (AHeap.fresh_set (by assumption)).2 (by assumption) | exact Ne.symm (AHeap.ne_of (AHeap.fresh_set (by assumption)).2 (by assumption)) | assumption | skip) | exact (AHeap.fresh_set (by assumption)).1 | exact Ne.symm (AHeap.fresh_set (by assumption)).1 | exact AHeap.ne_of (by assumption) (by assumption) | exact Ne.symm (AHeap.ne_of (by assumption) (by assumption)) | exact (AHeap.fresh_set (AHeap.fresh_set (by assumption)).2).1 | exact Ne.symm (AHeap.fresh_set (AHeap.fresh_set (by assumption)).2).1 | exact AHeap.ne_of (AHeap.fresh_set (by assumption)).2 (by assumption) | exact Ne.symm (AHeap.ne_of (AHeap.fresh_set (by assumption)).2 (by assumption)))); first | done | fail) rfl rfl rfl (by rfl) rfl ?_)
      | refine S.skip rfl ?_
      | refine S.skip0 rfl ?_
      | refine S.seq ?_
      | refine S.region ?_
      | refine S.regionT ?_
      | refine S.tstep ?_
      | refine S.talt ?_ ?_
      | exact S.tstop
      | refine S.tdone ?_
      | refine S.condT rfl ?_
      | refine S.condF rfl ?_
      | refine RRun.skip ?_
      | refine RRun.block ?_
      | refine RRun.inBlock ?_
      | refine RRun.exit rfl ?_)
    apply S.ret rr4
    case hx => repeat (first | exact ResAt.nil | apply ResAt.tmp rfl | apply ResAt.cellA rfl (by (repeat' (first | assumption | exact AHeap.set_same _ _ _ | refine AHeap.get_fresh (by assumption) ?_ | (refine (AHeap.set_other _ _ ?_).trans ?_; first | exact (AHeap.fresh_set (by assumption)).1 | exact Ne.symm (AHeap.fresh_set (by assumption)).1 | exact AHeap.ne_of (by assumption) (by assumption) | exact Ne.symm (AHeap.ne_of (by assumption) (by assumption)) | exact (AHeap.fresh_set (AHeap.fresh_set (by assumption)).2).1 | exact Ne.symm (AHeap.fresh_set (AHeap.fresh_set (by assumption)).2).1 | exact AHeap.ne_of (AHeap.fresh_set (by assumption)).2 (by assumption) | exact Ne.symm (AHeap.ne_of (AHeap.fresh_set (by assumption)).2 (by assumption)) | assumption | skip) | exact (AHeap.fresh_set (by assumption)).1 | exact Ne.symm (AHeap.fresh_set (by assumption)).1 | exact AHeap.ne_of (by assumption) (by assumption) | exact Ne.symm (AHeap.ne_of (by assumption) (by assumption)) | exact (AHeap.fresh_set (AHeap.fresh_set (by assumption)).2).1 | exact Ne.symm (AHeap.fresh_set (AHeap.fresh_set (by assumption)).2).1 | exact AHeap.ne_of (AHeap.fresh_set (by assumption)).2 (by assumption) | exact Ne.symm (AHeap.ne_of (AHeap.fresh_set (by assumption)).2 (by assumption)))); first | done | fail) (by rfl) | apply ResAt.cell1 rfl (by (repeat' (first | assumption | exact AHeap.set_same _ _ _ | refine AHeap.get_fresh (by assumption) ?_ | (refine (AHeap.set_other _ _ ?_).trans ?_; first | exact (AHeap.fresh_set (by assumption)).1 | exact Ne.symm (AHeap.fresh_set (by assumption)).1 | exact AHeap.ne_of (by assumption) (by assumption) | exact Ne.symm (AHeap.ne_of (by assumption) (by assumption)) | exact (AHeap.fresh_set (AHeap.fresh_set (by assumption)).2).1 | exact Ne.symm (AHeap.fresh_set (AHeap.fresh_set (by assumption)).2).1 | exact AHeap.ne_of (AHeap.fresh_set (by assumption)).2 (by assumption) | exact Ne.symm (AHeap.ne_of (AHeap.fresh_set (by assumption)).2 (by assumption)) | assumption | skip) | exact (AHeap.fresh_set (by assumption)).1 | exact Ne.symm (AHeap.fresh_set (by assumption)).1 | exact AHeap.ne_of (by assumption) (by assumption) | exact Ne.symm (AHeap.ne_of (by assumption) (by assumption)) | exact (AHeap.fresh_set (AHeap.fresh_set (by assumption)).2).1 | exact Ne.symm (AHeap.fresh_set (AHeap.fresh_set (by assumption)).2).1 | exact AHeap.ne_of (AHeap.fresh_set (by assumption)).2 (by assumption) | exact Ne.symm (AHeap.ne_of (AHeap.fresh_set (by assumption)).2 (by assumption)))); first | done | fail) (by rfl))
    exact ⟨_, _, .refl _, .refl _, rfl, rfl⟩

end Go.Proofs.Ytnmgamcmjjngcaa
