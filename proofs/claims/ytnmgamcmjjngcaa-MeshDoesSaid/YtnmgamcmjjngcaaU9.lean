import Derived.Test.YtnmgamcmjjngcaaU8
set_option linter.unusedVariables false
set_option linter.unusedSimpArgs false
namespace Go.Proofs.Ytnmgamcmjjngcaa
open Go.Av

theorem MAt.newWait {h₀ h : AHeap} {M : Mesh} {p bm : Nat} (H : MAt h₀ M p bm h) {b cap : Nat} {row : ABlk} {w' : List Fly} {sp : List AV} (h0 : h₀ b = none) (hbp : b ≠ p) (hbm : b ≠ bm) (hrow : row = .box ((w'.map Fly.cells).flatten ++ sp)) (hsp : sp.length = (cap - w'.length) * 15) (hc : w'.length ≤ cap) (hm : cap ≤ maxLen) :
    MAt h₀ { M with wait := w' } p bm ((h.set b row).set p (.box [fates M.fates, i64 M.sent, i64 M.now, .v (.map (some bm)), slAt b 0 w'.length cap])) := by
  have hmp : bm ≠ p := fun e => by obtain ⟨v, h1, _⟩ := H.hp; subst e; rw [H.hm] at h1; cases h1
  refine ⟨fun x o e => ?_, H.p0, H.m0, by rw [AHeap.set_other _ _ hmp, AHeap.set_other _ _ (Ne.symm hbm)]; exact H.hm, H.nd, _, AHeap.set_same _ _ _, .inr ⟨b, cap, sp, h0, hbp, rfl, ?_, hsp, hc, hm⟩⟩
  · have h1 : x ≠ p := fun e' => by subst e'; rw [H.p0] at e; cases e
    have h2 : x ≠ b := fun e' => by subst e'; rw [h0] at e; cases e
    rw [AHeap.set_other _ _ h1, AHeap.set_other _ _ h2]; exact H.fr x o e
  · rw [AHeap.set_other _ _ hbp, AHeap.set_same, hrow]

theorem fly_msg (l : List Fly) (sp : List AV) (n : Nat) (hn : n < l.length) : loadAV true 14 (((l.map Fly.cells).flatten ++ sp).drop (0 + ((n : Nat) : Int).toNat * 15 + 0)) = some (.ag l[n].m.cells) := by
  have hgi : (l.map Fly.cells)[n]? = some l[n].cells := by simp [hn]
  have h1 := row_take (sp := sp) (fly_len l) hgi
  have h2 : (((l.map Fly.cells).flatten ++ sp).drop (n * 15)).take 14 = l[n].m.cells := by
    have : (l[n].cells).take 14 = l[n].m.cells := rfl
    rw [← this, ← h1, List.take_take]; rfl
  have h3 : 14 ≤ (((l.map Fly.cells).flatten ++ sp).drop (n * 15)).length := by
    have := congrArg List.length h2
    rw [List.length_take] at this
    have h4 : l[n].m.cells.length = 14 := rfl
    omega
  simp only [loadAV, if_true, Nat.zero_add, Nat.add_zero, Int.toNat_natCast]
  rw [if_pos h3, h2]

theorem next_spec {h₀ h : AHeap} {M : Mesh} {p bm : Nat} (H : MAt h₀ M p bm h) (hl : M.wait.length ≤ 1000000) : ACalls Try.prog 22 [ptr p] h (fun x h' => x = .tu [.ag M.got.cells, bl M.is] ∧ MAt h₀ M.rest p bm h') := by
  obtain ⟨c, hc1, hc2⟩ := res22
  refine ACalls.weak (ACalls.enter Try.func22 hc1 Try.ntmps22 hc2 (Nat.le_of_ble_eq_true rfl) rfl ?_)
  have hat : M.at = pickAt M.now M.wait M.wait.length := rfl
  have hwt : ∀ h, MAt h₀ M p bm h → ACalls Try.prog 29 [ptr p] h (fun x h' => x = i64 M.wait.length ∧ h' = h) := fun h H => waiting_spec H
  repeat' (first
    | refine S.nilK ?_
    | (refine S.op rfl ?_; first
      | refine R.callQ (by decide) rfl (hwt _ (H.alloc _ (by assumption))) ?_
      | refine R.mv rfl ?_
      | refine R.fieldAddr rfl ?_
      | refine R.fieldAddrR rfl ?_
      | refine R.nilCheck rfl ?_
      | refine R.nilCheckR rfl ?_
      | refine R.loadR rfl rfl ?_
      | refine R.load (by decide) rfl (by (repeat' (first | assumption | exact AHeap.set_same _ _ _ | refine AHeap.get_fresh (by assumption) ?_ | refine AHeap.so ?_ ?_ | exact AHeap.n1 (by assumption) | exact AHeap.n2 (by assumption) | exact AHeap.ne_of (by assumption) (by assumption) | exact AHeap.n4 (by assumption) (by assumption) | exact AHeap.n5 (by assumption) | exact AHeap.n6 (by assumption) | exact AHeap.n7 (by assumption) (by assumption) | exact AHeap.n8 (by assumption) (by assumption))); first | done | fail) rfl ?_
      | refine S.addI rfl rfl (by omega) ?_
      | refine S.subI rfl rfl (by omega) ?_
      | refine S.addU rfl rfl ?_
      | refine S.subU rfl rfl ?_
      | refine S.addUc rfl (by decide) ?_
      | refine S.subUc rfl (by decide) ?_
      | refine S.arith rfl rfl rfl ?_
      | refine R.pickT rfl rfl ?_
      | refine R.pickF rfl rfl ?_
      | refine R.len rfl ?_
      | refine R.lenA rfl ?_
      | refine R.lenStr rfl ?_
      | refine S.convIU rfl (by omega) ?_
      | refine S.convUI rfl (by omega) ?_
      | refine R.convInt rfl ?_
      | refine R.not rfl ?_
      | refine R.eqPtrNil rfl rfl ?_
      | refine R.extract rfl rfl ?_
      | refine R.field rfl rfl ?_
      | refine R.alloc rfl (fun b hb => ?_)
      | refine R.box rfl rfl rfl (fun b hb => ?_)
      | refine R.build rfl rfl ?_
      | refine R.buildSl rfl rfl rfl (by decide) ?_
      | refine R.toStr rfl ?_
      | refine R.convStr rfl ?_
      | refine R.minmax rfl ?_
      | refine R.makeFunc rfl rfl ?_
      | (first | refine S.lss rfl rfl (fun hlt => ?_) (fun hlt => by exfalso; omega) | refine S.lss rfl rfl (fun hlt => by exfalso; omega) (fun hlt => ?_) | refine S.lss rfl rfl (fun hlt => ?_) (fun hlt => ?_))
      | (first | refine S.gtr rfl rfl (fun hlt => ?_) (fun hlt => by exfalso; omega) | refine S.gtr rfl rfl (fun hlt => by exfalso; omega) (fun hlt => ?_) | refine S.gtr rfl rfl (fun hlt => ?_) (fun hlt => ?_))
      | (first | refine S.leq rfl rfl (fun hlt => ?_) (fun hlt => by exfalso; omega) | refine S.leq rfl rfl (fun hlt => by exfalso; omega) (fun hlt => ?_) | refine S.leq rfl rfl (fun hlt => ?_) (fun hlt => ?_))
      | (first | refine S.geq rfl rfl (fun hlt => ?_) (fun hlt => by exfalso; omega) | refine S.geq rfl rfl (fun hlt => by exfalso; omega) (fun hlt => ?_) | refine S.geq rfl rfl (fun hlt => ?_) (fun hlt => ?_))
      | (first | refine S.eqInt rfl rfl (fun hlt => ?_) (fun hlt => by exfalso; omega) | refine S.eqInt rfl rfl (fun hlt => by exfalso; omega) (fun hlt => ?_) | refine S.eqInt rfl rfl (fun hlt => ?_) (fun hlt => ?_)))
    | (refine S.op0 rfl ?_; first | refine S.storeS rfl rfl rfl (by rfl) rfl (by first | decide | exact Nat.le_refl _ | exact Nat.le_of_ble_eq_true rfl) ?_ | refine S.store rfl rfl (by (repeat' (first | assumption | exact AHeap.set_same _ _ _ | refine AHeap.get_fresh (by assumption) ?_ | refine AHeap.so ?_ ?_ | exact AHeap.n1 (by assumption) | exact AHeap.n2 (by assumption) | exact AHeap.ne_of (by assumption) (by assumption) | exact AHeap.n4 (by assumption) (by assumption) | exact AHeap.n5 (by assumption) | exact AHeap.n6 (by assumption) | exact AHeap.n7 (by assumption) (by assumption) | exact AHeap.n8 (by assumption) (by assumption))); first | done | fail) rfl rfl rfl (by rfl) rfl ?_)
    | refine S.skip rfl ?_
    | refine S.skip0 rfl ?_
    | refine S.seq ?_
    | refine S.region ?_
    | refine S.regionT ?_
    | refine S.tstep ?_
    | refine S.talt ?_ ?_
    | exact S.tstop
    | refine S.tdone ?_
    | refine S.condT rfl ?_
    | refine S.condF rfl ?_
    | refine RRun.skip ?_
    | refine RRun.block ?_
    | refine RRun.inBlock ?_
    | refine RRun.exit rfl ?_)
  have H2 := H.join (.box zero14) hb
  have hb0 := H.free hb
  obtain ⟨v, hp, hw⟩ := H2.hp
  rcases hw with ⟨hnil, rfl⟩ | ⟨br, cap, sp, w1, w2, rfl, w4, w5, w6, w7⟩
  · rw [hnil]
    refine RRun.loopIn (S.keep [9, 8, 4, 0, 2] rfl (next_loop0 (p := 0) _ _ _ _ _ ?_))
    have ha : M.at < 0 := by rw [hat, hnil]; exact Int.negSucc_lt_zero 0
    repeat' (first
      | refine S.nilK ?_
      | (refine S.op rfl ?_; first
        | refine R.mv rfl ?_
        | refine R.fieldAddr rfl ?_
        | refine R.fieldAddrR rfl ?_
        | refine R.nilCheck rfl ?_
        | refine R.nilCheckR rfl ?_
        | refine R.loadR rfl rfl ?_
        | refine R.load (by decide) rfl (by (repeat' (first | assumption | exact AHeap.set_same _ _ _ | refine AHeap.get_fresh (by assumption) ?_ | refine AHeap.so ?_ ?_ | exact AHeap.n1 (by assumption) | exact AHeap.n2 (by assumption) | exact AHeap.ne_of (by assumption) (by assumption) | exact AHeap.n4 (by assumption) (by assumption) | exact AHeap.n5 (by assumption) | exact AHeap.n6 (by assumption) | exact AHeap.n7 (by assumption) (by assumption) | exact AHeap.n8 (by assumption) (by assumption))); first | done | fail) rfl ?_
        | refine S.addI rfl rfl (by omega) ?_
        | refine S.subI rfl rfl (by omega) ?_
        | refine S.addU rfl rfl ?_
        | refine S.subU rfl rfl ?_
        | refine S.addUc rfl (by decide) ?_
        | refine S.subUc rfl (by decide) ?_
        | refine S.arith rfl rfl rfl ?_
        | refine R.pickT rfl rfl ?_
        | refine R.pickF rfl rfl ?_
        | refine R.len rfl ?_
        | refine R.lenA rfl ?_
        | refine R.lenStr rfl ?_
        | refine S.convIU rfl (by omega) ?_
        | refine S.convUI rfl (by omega) ?_
        | refine R.convInt rfl ?_
        | refine R.not rfl ?_
        | refine R.eqPtrNil rfl rfl ?_
        | refine R.extract rfl rfl ?_
        | refine R.field rfl rfl ?_
        | refine R.alloc rfl (fun b hb => ?_)
        | refine R.box rfl rfl rfl (fun b hb => ?_)
        | refine R.build rfl rfl ?_
        | refine R.buildSl rfl rfl rfl (by decide) ?_
        | refine R.toStr rfl ?_
        | refine R.convStr rfl ?_
        | refine R.minmax rfl ?_
        | refine R.makeFunc rfl rfl ?_
        | (first | refine S.lss rfl rfl (fun hlt => ?_) (fun hlt => by exfalso; omega) | refine S.lss rfl rfl (fun hlt => by exfalso; omega) (fun hlt => ?_) | refine S.lss rfl rfl (fun hlt => ?_) (fun hlt => ?_))
        | (first | refine S.gtr rfl rfl (fun hlt => ?_) (fun hlt => by exfalso; omega) | refine S.gtr rfl rfl (fun hlt => by exfalso; omega) (fun hlt => ?_) | refine S.gtr rfl rfl (fun hlt => ?_) (fun hlt => ?_))
        | (first | refine S.leq rfl rfl (fun hlt => ?_) (fun hlt => by exfalso; omega) | refine S.leq rfl rfl (fun hlt => by exfalso; omega) (fun hlt => ?_) | refine S.leq rfl rfl (fun hlt => ?_) (fun hlt => ?_))
        | (first | refine S.geq rfl rfl (fun hlt => ?_) (fun hlt => by exfalso; omega) | refine S.geq rfl rfl (fun hlt => by exfalso; omega) (fun hlt => ?_) | refine S.geq rfl rfl (fun hlt => ?_) (fun hlt => ?_))
        | (first | refine S.eqInt rfl rfl (fun hlt => ?_) (fun hlt => by exfalso; omega) | refine S.eqInt rfl rfl (fun hlt => by exfalso; omega) (fun hlt => ?_) | refine S.eqInt rfl rfl (fun hlt => ?_) (fun hlt => ?_)))
      | (refine S.op0 rfl ?_; first | refine S.storeS rfl rfl rfl (by rfl) rfl (by first | decide | exact Nat.le_refl _ | exact Nat.le_of_ble_eq_true rfl) ?_ | refine S.store rfl rfl (by (repeat' (first | assumption | exact AHeap.set_same _ _ _ | refine AHeap.get_fresh (by assumption) ?_ | refine AHeap.so ?_ ?_ | exact AHeap.n1 (by assumption) | exact AHeap.n2 (by assumption) | exact AHeap.ne_of (by assumption) (by assumption) | exact AHeap.n4 (by assumption) (by assumption) | exact AHeap.n5 (by assumption) | exact AHeap.n6 (by assumption) | exact AHeap.n7 (by assumption) (by assumption) | exact AHeap.n8 (by assumption) (by assumption))); first | done | fail) rfl rfl rfl (by rfl) rfl ?_)
      | refine S.skip rfl ?_
      | refine S.skip0 rfl ?_
      | refine S.seq ?_
      | refine S.region ?_
      | refine S.regionT ?_
      | refine S.tstep ?_
      | refine S.talt ?_ ?_
      | exact S.tstop
      | refine S.tdone ?_
      | refine S.condT rfl ?_
      | refine S.condF rfl ?_
      | refine RRun.skip ?_
      | refine RRun.block ?_
      | refine RRun.inBlock ?_
      | refine RRun.exit rfl ?_)
    apply S.ret rr22
    case hx => repeat (first | exact ResAt.nil | apply ResAt.tmp rfl | apply ResAt.cellA rfl (by (repeat' (first | assumption | exact AHeap.set_same _ _ _ | refine AHeap.get_fresh (by assumption) ?_ | refine AHeap.so ?_ ?_ | exact AHeap.n1 (by assumption) | exact AHeap.n2 (by assumption) | exact AHeap.ne_of (by assumption) (by assumption) | exact AHeap.n4 (by assumption) (by assumption) | exact AHeap.n5 (by assumption) | exact AHeap.n6 (by assumption) | exact AHeap.n7 (by assumption) (by assumption) | exact AHeap.n8 (by assumption) (by assumption))); first | done | fail) (by rfl) | apply ResAt.cell1 rfl (by (repeat' (first | assumption | exact AHeap.set_same _ _ _ | refine AHeap.get_fresh (by assumption) ?_ | refine AHeap.so ?_ ?_ | exact AHeap.n1 (by assumption) | exact AHeap.n2 (by assumption) | exact AHeap.ne_of (by assumption) (by assumption) | exact AHeap.n4 (by assumption) (by assumption) | exact AHeap.n5 (by assumption) | exact AHeap.n6 (by assumption) | exact AHeap.n7 (by assumption) (by assumption) | exact AHeap.n8 (by assumption) (by assumption))); first | done | fail) (by rfl))
    refine ⟨_, _, .tu (.cons zeroMsg_le (.cons (.refl _) .nil)), .refl _, ?_, ?_⟩
    · rw [Mesh.got, if_pos ha, Mesh.is, decide_eq_true ha]; rfl
    · rw [Mesh.rest, if_pos ha]
      exact H.alloc _ hb
  · refine RRun.loopIn (S.keep [9, 8, 4, 0, 2] rfl (next_loop M.wait hl M.now br cap sp _ _ hp w4 _ _ ?_ M.wait.length 0 (by omega)))
    rw [← hat]
    have hlt := pickAt_lt M.now M.wait M.wait.length
    rw [← hat] at hlt
    by_cases ha : M.at < 0
    · have eg : M.got = zeroMsg := if_pos ha
      have er : M.rest = M := if_pos ha
      have ei : M.is = false := by rw [Mesh.is, decide_eq_true ha]; rfl
      rw [eg, er, ei]
      generalize M.at = a at ha
      repeat' (first
        | refine S.nilK ?_
        | (refine S.op rfl ?_; first
          | refine R.mv rfl ?_
          | refine R.fieldAddr rfl ?_
          | refine R.fieldAddrR rfl ?_
          | refine R.nilCheck rfl ?_
          | refine R.nilCheckR rfl ?_
          | refine R.loadR rfl rfl ?_
          | refine R.load (by decide) rfl (by (repeat' (first | assumption | exact AHeap.set_same _ _ _ | refine AHeap.get_fresh (by assumption) ?_ | refine AHeap.so ?_ ?_ | exact AHeap.n1 (by assumption) | exact AHeap.n2 (by assumption) | exact AHeap.ne_of (by assumption) (by assumption) | exact AHeap.n4 (by assumption) (by assumption) | exact AHeap.n5 (by assumption) | exact AHeap.n6 (by assumption) | exact AHeap.n7 (by assumption) (by assumption) | exact AHeap.n8 (by assumption) (by assumption))); first | done | fail) rfl ?_
          | refine S.addI rfl rfl (by omega) ?_
          | refine S.subI rfl rfl (by omega) ?_
          | refine S.addU rfl rfl ?_
          | refine S.subU rfl rfl ?_
          | refine S.addUc rfl (by decide) ?_
          | refine S.subUc rfl (by decide) ?_
          | refine S.arith rfl rfl rfl ?_
          | refine R.pickT rfl rfl ?_
          | refine R.pickF rfl rfl ?_
          | refine R.len rfl ?_
          | refine R.lenA rfl ?_
          | refine R.lenStr rfl ?_
          | refine S.convIU rfl (by omega) ?_
          | refine S.convUI rfl (by omega) ?_
          | refine R.convInt rfl ?_
          | refine R.not rfl ?_
          | refine R.eqPtrNil rfl rfl ?_
          | refine R.extract rfl rfl ?_
          | refine R.field rfl rfl ?_
          | refine R.alloc rfl (fun b hb => ?_)
          | refine R.box rfl rfl rfl (fun b hb => ?_)
          | refine R.build rfl rfl ?_
          | refine R.buildSl rfl rfl rfl (by decide) ?_
          | refine R.toStr rfl ?_
          | refine R.convStr rfl ?_
          | refine R.minmax rfl ?_
          | refine R.makeFunc rfl rfl ?_
          | (first | refine S.lss rfl rfl (fun hlt => ?_) (fun hlt => by exfalso; omega) | refine S.lss rfl rfl (fun hlt => by exfalso; omega) (fun hlt => ?_) | refine S.lss rfl rfl (fun hlt => ?_) (fun hlt => ?_))
          | (first | refine S.gtr rfl rfl (fun hlt => ?_) (fun hlt => by exfalso; omega) | refine S.gtr rfl rfl (fun hlt => by exfalso; omega) (fun hlt => ?_) | refine S.gtr rfl rfl (fun hlt => ?_) (fun hlt => ?_))
          | (first | refine S.leq rfl rfl (fun hlt => ?_) (fun hlt => by exfalso; omega) | refine S.leq rfl rfl (fun hlt => by exfalso; omega) (fun hlt => ?_) | refine S.leq rfl rfl (fun hlt => ?_) (fun hlt => ?_))
          | (first | refine S.geq rfl rfl (fun hlt => ?_) (fun hlt => by exfalso; omega) | refine S.geq rfl rfl (fun hlt => by exfalso; omega) (fun hlt => ?_) | refine S.geq rfl rfl (fun hlt => ?_) (fun hlt => ?_))
          | (first | refine S.eqInt rfl rfl (fun hlt => ?_) (fun hlt => by exfalso; omega) | refine S.eqInt rfl rfl (fun hlt => by exfalso; omega) (fun hlt => ?_) | refine S.eqInt rfl rfl (fun hlt => ?_) (fun hlt => ?_)))
        | (refine S.op0 rfl ?_; first | refine S.storeS rfl rfl rfl (by rfl) rfl (by first | decide | exact Nat.le_refl _ | exact Nat.le_of_ble_eq_true rfl) ?_ | refine S.store rfl rfl (by (repeat' (first | assumption | exact AHeap.set_same _ _ _ | refine AHeap.get_fresh (by assumption) ?_ | refine AHeap.so ?_ ?_ | exact AHeap.n1 (by assumption) | exact AHeap.n2 (by assumption) | exact AHeap.ne_of (by assumption) (by assumption) | exact AHeap.n4 (by assumption) (by assumption) | exact AHeap.n5 (by assumption) | exact AHeap.n6 (by assumption) | exact AHeap.n7 (by assumption) (by assumption) | exact AHeap.n8 (by assumption) (by assumption))); first | done | fail) rfl rfl rfl (by rfl) rfl ?_)
        | refine S.skip rfl ?_
        | refine S.skip0 rfl ?_
        | refine S.seq ?_
        | refine S.region ?_
        | refine S.regionT ?_
        | refine S.tstep ?_
        | refine S.talt ?_ ?_
        | exact S.tstop
        | refine S.tdone ?_
        | refine S.condT rfl ?_
        | refine S.condF rfl ?_
        | refine RRun.skip ?_
        | refine RRun.block ?_
        | refine RRun.inBlock ?_
        | refine RRun.exit rfl ?_)
      apply S.ret rr22
      case hx => repeat (first | exact ResAt.nil | apply ResAt.tmp rfl | apply ResAt.cellA rfl (by (repeat' (first | assumption | exact AHeap.set_same _ _ _ | refine AHeap.get_fresh (by assumption) ?_ | refine AHeap.so ?_ ?_ | exact AHeap.n1 (by assumption) | exact AHeap.n2 (by assumption) | exact AHeap.ne_of (by assumption) (by assumption) | exact AHeap.n4 (by assumption) (by assumption) | exact AHeap.n5 (by assumption) | exact AHeap.n6 (by assumption) | exact AHeap.n7 (by assumption) (by assumption) | exact AHeap.n8 (by assumption) (by assumption))); first | done | fail) (by rfl) | apply ResAt.cell1 rfl (by (repeat' (first | assumption | exact AHeap.set_same _ _ _ | refine AHeap.get_fresh (by assumption) ?_ | refine AHeap.so ?_ ?_ | exact AHeap.n1 (by assumption) | exact AHeap.n2 (by assumption) | exact AHeap.ne_of (by assumption) (by assumption) | exact AHeap.n4 (by assumption) (by assumption) | exact AHeap.n5 (by assumption) | exact AHeap.n6 (by assumption) | exact AHeap.n7 (by assumption) (by assumption) | exact AHeap.n8 (by assumption) (by assumption))); first | done | fail) (by rfl))
      exact ⟨_, _, .tu (.cons zeroMsg_le (.cons (.refl _) .nil)), .refl _, rfl, H.alloc _ hb⟩
    · obtain ⟨a, hae⟩ : ∃ a : Nat, M.at = (a : Int) := ⟨M.at.toNat, by omega⟩
      have hal : a < M.wait.length := by omega
      have ei : M.is = true := by rw [Mesh.is, decide_eq_false ha]; rfl
      have eg : M.got = M.wait[a].m := by rw [Mesh.got, if_neg ha, hae, Int.toNat_natCast, List.getElem?_eq_getElem hal]
      have er : M.rest = { M with wait := M.wait.eraseIdx a } := by rw [Mesh.rest, if_neg ha, hae, Int.toNat_natCast]
      rw [eg, er, ei, hae]
      have hm := fly_msg M.wait sp a hal
      repeat' (first
        | refine S.nilK ?_
        | (refine S.op rfl ?_; first
          | refine R.indexAddrV rfl rfl (by omega) (by omega) ?_
          | refine R.load (by decide) rfl w4 hm ?_
          | refine R.mv rfl ?_
          | refine R.fieldAddr rfl ?_
          | refine R.fieldAddrR rfl ?_
          | refine R.nilCheck rfl ?_
          | refine R.nilCheckR rfl ?_
          | refine R.loadR rfl rfl ?_
          | refine R.load (by decide) rfl (by (repeat' (first | assumption | exact AHeap.set_same _ _ _ | refine AHeap.get_fresh (by assumption) ?_ | refine AHeap.so ?_ ?_ | exact AHeap.n1 (by assumption) | exact AHeap.n2 (by assumption) | exact AHeap.ne_of (by assumption) (by assumption) | exact AHeap.n4 (by assumption) (by assumption) | exact AHeap.n5 (by assumption) | exact AHeap.n6 (by assumption) | exact AHeap.n7 (by assumption) (by assumption) | exact AHeap.n8 (by assumption) (by assumption))); first | done | fail) rfl ?_
          | refine S.addI rfl rfl (by omega) ?_
          | refine S.subI rfl rfl (by omega) ?_
          | refine S.addU rfl rfl ?_
          | refine S.subU rfl rfl ?_
          | refine S.addUc rfl (by decide) ?_
          | refine S.subUc rfl (by decide) ?_
          | refine S.arith rfl rfl rfl ?_
          | refine R.pickT rfl rfl ?_
          | refine R.pickF rfl rfl ?_
          | refine R.len rfl ?_
          | refine R.lenA rfl ?_
          | refine R.lenStr rfl ?_
          | refine S.convIU rfl (by omega) ?_
          | refine S.convUI rfl (by omega) ?_
          | refine R.convInt rfl ?_
          | refine R.not rfl ?_
          | refine R.eqPtrNil rfl rfl ?_
          | refine R.extract rfl rfl ?_
          | refine R.field rfl rfl ?_
          | refine R.alloc rfl (fun b hb => ?_)
          | refine R.box rfl rfl rfl (fun b hb => ?_)
          | refine R.build rfl rfl ?_
          | refine R.buildSl rfl rfl rfl (by decide) ?_
          | refine R.toStr rfl ?_
          | refine R.convStr rfl ?_
          | refine R.minmax rfl ?_
          | refine R.makeFunc rfl rfl ?_
          | (first | refine S.lss rfl rfl (fun hlt => ?_) (fun hlt => by exfalso; omega) | refine S.lss rfl rfl (fun hlt => by exfalso; omega) (fun hlt => ?_) | refine S.lss rfl rfl (fun hlt => ?_) (fun hlt => ?_))
          | (first | refine S.gtr rfl rfl (fun hlt => ?_) (fun hlt => by exfalso; omega) | refine S.gtr rfl rfl (fun hlt => by exfalso; omega) (fun hlt => ?_) | refine S.gtr rfl rfl (fun hlt => ?_) (fun hlt => ?_))
          | (first | refine S.leq rfl rfl (fun hlt => ?_) (fun hlt => by exfalso; omega) | refine S.leq rfl rfl (fun hlt => by exfalso; omega) (fun hlt => ?_) | refine S.leq rfl rfl (fun hlt => ?_) (fun hlt => ?_))
          | (first | refine S.geq rfl rfl (fun hlt => ?_) (fun hlt => by exfalso; omega) | refine S.geq rfl rfl (fun hlt => by exfalso; omega) (fun hlt => ?_) | refine S.geq rfl rfl (fun hlt => ?_) (fun hlt => ?_))
          | (first | refine S.eqInt rfl rfl (fun hlt => ?_) (fun hlt => by exfalso; omega) | refine S.eqInt rfl rfl (fun hlt => by exfalso; omega) (fun hlt => ?_) | refine S.eqInt rfl rfl (fun hlt => ?_) (fun hlt => ?_)))
        | (refine S.op0 rfl ?_; first | refine S.storeS rfl rfl rfl (by rfl) rfl (by first | decide | exact Nat.le_refl _ | exact Nat.le_of_ble_eq_true rfl) ?_ | refine S.store rfl rfl (by (repeat' (first | assumption | exact AHeap.set_same _ _ _ | refine AHeap.get_fresh (by assumption) ?_ | refine AHeap.so ?_ ?_ | exact AHeap.n1 (by assumption) | exact AHeap.n2 (by assumption) | exact AHeap.ne_of (by assumption) (by assumption) | exact AHeap.n4 (by assumption) (by assumption) | exact AHeap.n5 (by assumption) | exact AHeap.n6 (by assumption) | exact AHeap.n7 (by assumption) (by assumption) | exact AHeap.n8 (by assumption) (by assumption))); first | done | fail) rfl rfl rfl (by rfl) rfl ?_)
        | refine S.skip rfl ?_
        | refine S.skip0 rfl ?_
        | refine S.seq ?_
        | refine S.region ?_
        | refine S.regionT ?_
        | refine S.tstep ?_
        | refine S.talt ?_ ?_
        | exact S.tstop
        | refine S.tdone ?_
        | refine S.condT rfl ?_
        | refine S.condF rfl ?_
        | refine RRun.skip ?_
        | refine RRun.block ?_
        | refine RRun.inBlock ?_
        | refine RRun.exit rfl ?_)
      rename_i b2 hb2 hlt0
      have hle : (M.wait.eraseIdx a).length = M.wait.length - 1 := by rw [List.length_eraseIdx, if_pos hal]
      have hq := AHeap.fresh_set hb
      have h6p : b ≠ p := fun e => by subst e; rw [hb] at hp; cases hp
      have h2p : b2 ≠ p := fun e => by subst e; obtain ⟨v, hv, _⟩ := H.hp; rw [hb2] at hv; cases hv
      have hr6 : br ≠ b := fun e => by subst e; rw [hb] at w4; cases w4
      have hr2 : br ≠ b2 := (AHeap.fresh_set w1).1
      have hrm : br ≠ bm := fun e => by subst e; rw [H2.hm] at w4; cases w4
      generalize M.wait[a].m = ms at hm
      show RChain Try.prog _ _ ((h.set b2 (.box zero14)).set b (.box ms.cells)) _
      have H6 := H2.alloc (.box ms.cells) hb
      rw [show ((a : Int) + 1) = ((a + 1 : Nat) : Int) by omega]
      refine S.op rfl (R.call rfl rfl (ACalls.mono (delete_spec M.wait a hal br cap sp hl w6 w7 w5 _ (AHeap.get_fresh hb w4)) ?_))
      rintro _ _ ⟨rfl, sp', hsp', rfl⟩
      have H9 := H6.newWait (w' := M.wait.eraseIdx a) (sp := sp') w1 w2 hrm rfl (by rw [hle]; exact hsp') (by rw [hle]; omega) w7
      have hpG : (((h.set b2 (.box zero14)).set b (.box ms.cells)).set br (.box (((M.wait.eraseIdx a).map Fly.cells).flatten ++ sp'))) p = some (.box [fates M.fates, i64 M.sent, i64 M.now, .v (.map (some bm)), slAt br 0 M.wait.length cap]) := by
        rw [AHeap.set_other _ _ (Ne.symm w2)]; exact AHeap.get_fresh hb hp
      have h6G : (((h.set b2 (.box zero14)).set b (.box ms.cells)).set br (.box (((M.wait.eraseIdx a).map Fly.cells).flatten ++ sp'))) b = some (.box ms.cells) := by
        rw [AHeap.set_other _ _ (Ne.symm hr6)]; exact AHeap.set_same _ _ _
      have h2G : (((h.set b2 (.box zero14)).set b (.box ms.cells)).set br (.box (((M.wait.eraseIdx a).map Fly.cells).flatten ++ sp'))) b2 = some (.box zero14) := by
        rw [AHeap.set_other _ _ (Ne.symm hr2), AHeap.set_other _ _ (Ne.symm hq.1)]; exact AHeap.set_same _ _ _
      rw [hle] at H9
      generalize ((h.set b2 (.box zero14)).set b (.box ms.cells)).set br (.box (((M.wait.eraseIdx a).map Fly.cells).flatten ++ sp')) = G at hpG h6G h2G H9 ⊢
      repeat' (first
        | refine S.nilK ?_
        | (refine S.op rfl ?_; first
          | refine R.mv rfl ?_
          | refine R.fieldAddr rfl ?_
          | refine R.fieldAddrR rfl ?_
          | refine R.nilCheck rfl ?_
          | refine R.nilCheckR rfl ?_
          | refine R.loadR rfl rfl ?_
          | refine R.load (by decide) rfl (by (repeat' (first | assumption | exact AHeap.set_same _ _ _ | refine AHeap.get_fresh (by assumption) ?_ | refine AHeap.so ?_ ?_ | exact AHeap.n1 (by assumption) | exact AHeap.n2 (by assumption) | exact AHeap.ne_of (by assumption) (by assumption) | exact AHeap.n4 (by assumption) (by assumption) | exact AHeap.n5 (by assumption) | exact AHeap.n6 (by assumption) | exact AHeap.n7 (by assumption) (by assumption) | exact AHeap.n8 (by assumption) (by assumption))); first | done | fail) rfl ?_
          | refine S.addI rfl rfl (by omega) ?_
          | refine S.subI rfl rfl (by omega) ?_
          | refine S.addU rfl rfl ?_
          | refine S.subU rfl rfl ?_
          | refine S.addUc rfl (by decide) ?_
          | refine S.subUc rfl (by decide) ?_
          | refine S.arith rfl rfl rfl ?_
          | refine R.pickT rfl rfl ?_
          | refine R.pickF rfl rfl ?_
          | refine R.len rfl ?_
          | refine R.lenA rfl ?_
          | refine R.lenStr rfl ?_
          | refine S.convIU rfl (by omega) ?_
          | refine S.convUI rfl (by omega) ?_
          | refine R.convInt rfl ?_
          | refine R.not rfl ?_
          | refine R.eqPtrNil rfl rfl ?_
          | refine R.extract rfl rfl ?_
          | refine R.field rfl rfl ?_
          | refine R.alloc rfl (fun b hb => ?_)
          | refine R.box rfl rfl rfl (fun b hb => ?_)
          | refine R.build rfl rfl ?_
          | refine R.buildSl rfl rfl rfl (by decide) ?_
          | refine R.toStr rfl ?_
          | refine R.convStr rfl ?_
          | refine R.minmax rfl ?_
          | refine R.makeFunc rfl rfl ?_
          | (first | refine S.lss rfl rfl (fun hlt => ?_) (fun hlt => by exfalso; omega) | refine S.lss rfl rfl (fun hlt => by exfalso; omega) (fun hlt => ?_) | refine S.lss rfl rfl (fun hlt => ?_) (fun hlt => ?_))
          | (first | refine S.gtr rfl rfl (fun hlt => ?_) (fun hlt => by exfalso; omega) | refine S.gtr rfl rfl (fun hlt => by exfalso; omega) (fun hlt => ?_) | refine S.gtr rfl rfl (fun hlt => ?_) (fun hlt => ?_))
          | (first | refine S.leq rfl rfl (fun hlt => ?_) (fun hlt => by exfalso; omega) | refine S.leq rfl rfl (fun hlt => by exfalso; omega) (fun hlt => ?_) | refine S.leq rfl rfl (fun hlt => ?_) (fun hlt => ?_))
          | (first | refine S.geq rfl rfl (fun hlt => ?_) (fun hlt => by exfalso; omega) | refine S.geq rfl rfl (fun hlt => by exfalso; omega) (fun hlt => ?_) | refine S.geq rfl rfl (fun hlt => ?_) (fun hlt => ?_))
          | (first | refine S.eqInt rfl rfl (fun hlt => ?_) (fun hlt => by exfalso; omega) | refine S.eqInt rfl rfl (fun hlt => by exfalso; omega) (fun hlt => ?_) | refine S.eqInt rfl rfl (fun hlt => ?_) (fun hlt => ?_)))
        | (refine S.op0 rfl ?_; first | refine S.storeS rfl rfl rfl (by rfl) rfl (by first | decide | exact Nat.le_refl _ | exact Nat.le_of_ble_eq_true rfl) ?_ | refine S.store rfl rfl (by (repeat' (first | assumption | exact AHeap.set_same _ _ _ | refine AHeap.get_fresh (by assumption) ?_ | refine AHeap.so ?_ ?_ | exact AHeap.n1 (by assumption) | exact AHeap.n2 (by assumption) | exact AHeap.ne_of (by assumption) (by assumption) | exact AHeap.n4 (by assumption) (by assumption) | exact AHeap.n5 (by assumption) | exact AHeap.n6 (by assumption) | exact AHeap.n7 (by assumption) (by assumption) | exact AHeap.n8 (by assumption) (by assumption))); first | done | fail) rfl rfl rfl (by rfl) rfl ?_)
        | refine S.skip rfl ?_
        | refine S.skip0 rfl ?_
        | refine S.seq ?_
        | refine S.region ?_
        | refine S.regionT ?_
        | refine S.tstep ?_
        | refine S.talt ?_ ?_
        | exact S.tstop
        | refine S.tdone ?_
        | refine S.condT rfl ?_
        | refine S.condF rfl ?_
        | refine RRun.skip ?_
        | refine RRun.block ?_
        | refine RRun.inBlock ?_
        | refine RRun.exit rfl ?_)
      apply S.ret rr22
      case hx => repeat (first | exact ResAt.nil | apply ResAt.tmp rfl | apply ResAt.cellA rfl (by (repeat' (first | assumption | exact AHeap.set_same _ _ _ | refine AHeap.get_fresh (by assumption) ?_ | refine AHeap.so ?_ ?_ | exact AHeap.n1 (by assumption) | exact AHeap.n2 (by assumption) | exact AHeap.ne_of (by assumption) (by assumption) | exact AHeap.n4 (by assumption) (by assumption) | exact AHeap.n5 (by assumption) | exact AHeap.n6 (by assumption) | exact AHeap.n7 (by assumption) (by assumption) | exact AHeap.n8 (by assumption) (by assumption))); first | done | fail) (by rfl) | apply ResAt.cell1 rfl (by (repeat' (first | assumption | exact AHeap.set_same _ _ _ | refine AHeap.get_fresh (by assumption) ?_ | refine AHeap.so ?_ ?_ | exact AHeap.n1 (by assumption) | exact AHeap.n2 (by assumption) | exact AHeap.ne_of (by assumption) (by assumption) | exact AHeap.n4 (by assumption) (by assumption) | exact AHeap.n5 (by assumption) | exact AHeap.n6 (by assumption) | exact AHeap.n7 (by assumption) (by assumption) | exact AHeap.n8 (by assumption) (by assumption))); first | done | fail) (by rfl))
      refine ⟨_, _, .refl _, .refl _, rfl, ?_⟩
      have h10 := H9.other (.box ms.cells) (AHeap.set_same h₀ b2 _)
      rw [AHeap.set_set] at h10
      exact h10.drop hb0

end Go.Proofs.Ytnmgamcmjjngcaa
