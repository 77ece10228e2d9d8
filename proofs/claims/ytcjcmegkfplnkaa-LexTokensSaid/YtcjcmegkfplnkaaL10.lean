import Derived.Test.YtcjcmegkfplnkaaL9
set_option linter.unusedVariables false
set_option linter.unusedSimpArgs false
namespace Go.Proofs.Ytcjcmegkfplnkaa
open Go.Av

theorem num_fits {n d : Int} (hn : 0 ≤ n) (h0 : 0 ≤ d) (h9 : d ≤ 9) : n ≤ (9223372036854775807 - d).tdiv 10 ↔ Fits (n * 10) ∧ Fits (n * 10 + d) := by
  rw [Int.tdiv_eq_ediv_of_nonneg (by omega)]
  omega
theorem num_bound {d : Int} (h0 : 0 ≤ d) (h9 : d ≤ 9) : Fits ((9223372036854775807 - d).tdiv 10) := by
  rw [Int.tdiv_eq_ediv_of_nonneg (by omega)]
  omega

/-- The reference's number so far: good, and then the program's. -/
theorem qnum_loop (s : List UInt8) (hs : s.length ≤ 2000000) (b4 b i : Nat) (k : List RT) (Q : AV → AHeap → Prop) : ∀ (m j : Nat) (o : Option Int) (n : Int) (h : AHeap), j + m = s.length → (∀ x, o = some x → x = n) → Fits n → 0 ≤ n → h b = some (.box (Tok.cells ⟨2, [], n, i⟩)) →
    (∀ n', (∀ x, (digits (s.drop j)).foldl numStep o = some x → x = n') → RRun Try.prog Try.f13 186 k (Env.get [(0, str s), (1, i64 i), (4, ptr b4), (7, ptr b), (8, i64 (j + (digits (s.drop j)).length : Nat)), (11, bl ((digits (s.drop j)).foldl numStep o).isSome)]) (h.set b (.box (Tok.cells ⟨2, [], n', i⟩))) Q) →
    RRun Try.prog Try.f13 186 (.inLoop r13l1 :: .inBlock 3 :: k) (Env.get [(0, str s), (1, i64 i), (4, ptr b4), (7, ptr b), (8, i64 j), (11, bl o.isSome)]) h Q := by
  intro m
  induction m with
  | zero =>
    intro j o n h hj ho hf hn hb hk
    have hd : s.drop j = [] := by simp; omega
    have hk := hk n (by rw [hd]; exact ho)
    rw [hd, show digits [] = [] from rfl, List.length_nil, Nat.add_zero, AHeap.set_eq h hb] at hk
    refine RRun.inLoop ?_
    repeat' (first
      | refine S.nilK ?_
      | (refine S.op rfl ?_; first
        | refine S.lenS rfl ?_
        | refine R.mv rfl ?_
        | refine R.fieldAddr rfl ?_
        | refine R.fieldAddrR rfl ?_
        | refine R.nilCheck rfl ?_
        | refine R.nilCheckR rfl ?_
        | refine R.loadR rfl rfl ?_
        | refine R.load (by decide) rfl (by (repeat' (first | assumption | exact AHeap.set_same _ _ _ | refine AHeap.get_fresh (by assumption) ?_ | refine AHeap.so ?_ ?_ | exact AHeap.n1 (by assumption) | exact AHeap.n2 (by assumption) | exact AHeap.ne_of (by assumption) (by assumption) | exact AHeap.n4 (by assumption) (by assumption) | exact AHeap.n5 (by assumption) | exact AHeap.n6 (by assumption) | exact AHeap.n7 (by assumption) (by assumption) | exact AHeap.n8 (by assumption) (by assumption))); first | done | fail) rfl ?_
        | refine S.addI rfl rfl (by omega) ?_
        | refine S.subI rfl rfl (by omega) ?_
        | refine S.addU rfl rfl ?_
        | refine S.subU rfl rfl ?_
        | refine S.addUc rfl (by decide) ?_
        | refine S.subUc rfl (by decide) ?_
        | refine S.arith rfl rfl rfl ?_
        | refine R.pickT rfl rfl ?_
        | refine R.pickF rfl rfl ?_
        | refine R.len rfl ?_
        | refine R.lenA rfl ?_
        | refine R.lenStr rfl ?_
        | refine S.convIU rfl (by omega) ?_
        | refine S.convUI rfl (by omega) ?_
        | refine R.convInt rfl ?_
        | refine R.not rfl ?_
        | refine R.eqPtrNil rfl rfl ?_
        | refine R.extract rfl rfl ?_
        | refine R.field rfl rfl ?_
        | refine R.alloc rfl (fun b hb => ?_)
        | refine R.box rfl rfl rfl (fun b hb => ?_)
        | refine R.build rfl rfl ?_
        | refine R.buildSl rfl rfl rfl (by decide) ?_
        | refine R.toStr rfl ?_
        | refine R.convStr rfl ?_
        | refine R.minmax rfl ?_
        | refine R.makeFunc rfl rfl ?_
        | (first | refine S.lss rfl rfl (fun hlt => ?_) (fun hlt => by exfalso; omega) | refine S.lss rfl rfl (fun hlt => by exfalso; omega) (fun hlt => ?_) | refine S.lss rfl rfl (fun hlt => ?_) (fun hlt => ?_))
        | (first | refine S.gtr rfl rfl (fun hlt => ?_) (fun hlt => by exfalso; omega) | refine S.gtr rfl rfl (fun hlt => by exfalso; omega) (fun hlt => ?_) | refine S.gtr rfl rfl (fun hlt => ?_) (fun hlt => ?_))
        | (first | refine S.leq rfl rfl (fun hlt => ?_) (fun hlt => by exfalso; omega) | refine S.leq rfl rfl (fun hlt => by exfalso; omega) (fun hlt => ?_) | refine S.leq rfl rfl (fun hlt => ?_) (fun hlt => ?_))
        | (first | refine S.geq rfl rfl (fun hlt => ?_) (fun hlt => by exfalso; omega) | refine S.geq rfl rfl (fun hlt => by exfalso; omega) (fun hlt => ?_) | refine S.geq rfl rfl (fun hlt => ?_) (fun hlt => ?_))
        | (first | refine S.eqInt rfl rfl (fun hlt => ?_) (fun hlt => by exfalso; omega) | refine S.eqInt rfl rfl (fun hlt => by exfalso; omega) (fun hlt => ?_) | refine S.eqInt rfl rfl (fun hlt => ?_) (fun hlt => ?_)))
      | (refine S.op0 rfl ?_; first | refine S.storeS rfl rfl rfl (by rfl) rfl (by first | decide | exact Nat.le_refl _ | exact Nat.le_of_ble_eq_true rfl) ?_ | refine S.store rfl rfl (by (repeat' (first | assumption | exact AHeap.set_same _ _ _ | refine AHeap.get_fresh (by assumption) ?_ | refine AHeap.so ?_ ?_ | exact AHeap.n1 (by assumption) | exact AHeap.n2 (by assumption) | exact AHeap.ne_of (by assumption) (by assumption) | exact AHeap.n4 (by assumption) (by assumption) | exact AHeap.n5 (by assumption) | exact AHeap.n6 (by assumption) | exact AHeap.n7 (by assumption) (by assumption) | exact AHeap.n8 (by assumption) (by assumption))); first | done | fail) rfl rfl rfl (by rfl) rfl ?_)
      | refine S.skip rfl ?_
      | refine S.skip0 rfl ?_
      | refine S.seq ?_
      | refine S.region ?_
      | refine S.regionT ?_
      | refine S.tstep ?_
      | refine S.talt ?_ ?_
      | exact S.tstop
      | refine S.tdone ?_
      | refine S.condT rfl ?_
      | refine S.condF rfl ?_
      | refine RRun.skip ?_
      | refine RRun.block ?_
      | refine RRun.inBlock ?_
      | refine RRun.exit rfl ?_)
    exact S.keep [0, 1, 4, 7, 8, 11] rfl hk
  | succ m ih =>
    intro j o n h hj ho hf hn hb hk
    have hb' := hb
    replace hb : h b = some (.box [i64 2, str [], i64 n, i64 i]) := hb
    have hlt : j < s.length := by omega
    have hd : s.drop j = s[j] :: s.drop (j + 1) := List.drop_eq_getElem_cons hlt
    have hg : s[((j : Nat) : Int).toNat]? = some s[j] := by simp [hlt]
    have cD := qdigit_spec s[j] h
    refine RRun.inLoop ?_
    cases hD : isDigit s[j] with
    | false =>
      rw [hD] at cD
      have hz : digits (s.drop j) = [] := by rw [hd, digits_no _ hD]
      have hk := hk n (by rw [hz]; exact ho)
      rw [hz, List.length_nil, Nat.add_zero, AHeap.set_eq h hb'] at hk
      repeat' (first
        | refine S.nilK ?_
        | (refine S.op rfl ?_; first
          | refine S.lenS rfl ?_
          | refine S.indexS rfl rfl (by omega) hg ?_
          | refine R.callQ (by decide) rfl cD ?_
          | refine R.mv rfl ?_
          | refine R.fieldAddr rfl ?_
          | refine R.fieldAddrR rfl ?_
          | refine R.nilCheck rfl ?_
          | refine R.nilCheckR rfl ?_
          | refine R.loadR rfl rfl ?_
          | refine R.load (by decide) rfl (by (repeat' (first | assumption | exact AHeap.set_same _ _ _ | refine AHeap.get_fresh (by assumption) ?_ | refine AHeap.so ?_ ?_ | exact AHeap.n1 (by assumption) | exact AHeap.n2 (by assumption) | exact AHeap.ne_of (by assumption) (by assumption) | exact AHeap.n4 (by assumption) (by assumption) | exact AHeap.n5 (by assumption) | exact AHeap.n6 (by assumption) | exact AHeap.n7 (by assumption) (by assumption) | exact AHeap.n8 (by assumption) (by assumption))); first | done | fail) rfl ?_
          | refine S.addI rfl rfl (by omega) ?_
          | refine S.subI rfl rfl (by omega) ?_
          | refine S.addU rfl rfl ?_
          | refine S.subU rfl rfl ?_
          | refine S.addUc rfl (by decide) ?_
          | refine S.subUc rfl (by decide) ?_
          | refine S.arith rfl rfl rfl ?_
          | refine R.pickT rfl rfl ?_
          | refine R.pickF rfl rfl ?_
          | refine R.len rfl ?_
          | refine R.lenA rfl ?_
          | refine R.lenStr rfl ?_
          | refine S.convIU rfl (by omega) ?_
          | refine S.convUI rfl (by omega) ?_
          | refine R.convInt rfl ?_
          | refine R.not rfl ?_
          | refine R.eqPtrNil rfl rfl ?_
          | refine R.extract rfl rfl ?_
          | refine R.field rfl rfl ?_
          | refine R.alloc rfl (fun b hb => ?_)
          | refine R.box rfl rfl rfl (fun b hb => ?_)
          | refine R.build rfl rfl ?_
          | refine R.buildSl rfl rfl rfl (by decide) ?_
          | refine R.toStr rfl ?_
          | refine R.convStr rfl ?_
          | refine R.minmax rfl ?_
          | refine R.makeFunc rfl rfl ?_
          | (first | refine S.lss rfl rfl (fun hlt => ?_) (fun hlt => by exfalso; omega) | refine S.lss rfl rfl (fun hlt => by exfalso; omega) (fun hlt => ?_) | refine S.lss rfl rfl (fun hlt => ?_) (fun hlt => ?_))
          | (first | refine S.gtr rfl rfl (fun hlt => ?_) (fun hlt => by exfalso; omega) | refine S.gtr rfl rfl (fun hlt => by exfalso; omega) (fun hlt => ?_) | refine S.gtr rfl rfl (fun hlt => ?_) (fun hlt => ?_))
          | (first | refine S.leq rfl rfl (fun hlt => ?_) (fun hlt => by exfalso; omega) | refine S.leq rfl rfl (fun hlt => by exfalso; omega) (fun hlt => ?_) | refine S.leq rfl rfl (fun hlt => ?_) (fun hlt => ?_))
          | (first | refine S.geq rfl rfl (fun hlt => ?_) (fun hlt => by exfalso; omega) | refine S.geq rfl rfl (fun hlt => by exfalso; omega) (fun hlt => ?_) | refine S.geq rfl rfl (fun hlt => ?_) (fun hlt => ?_))
          | (first | refine S.eqInt rfl rfl (fun hlt => ?_) (fun hlt => by exfalso; omega) | refine S.eqInt rfl rfl (fun hlt => by exfalso; omega) (fun hlt => ?_) | refine S.eqInt rfl rfl (fun hlt => ?_) (fun hlt => ?_)))
        | (refine S.op0 rfl ?_; first | refine S.storeS rfl rfl rfl (by rfl) rfl (by first | decide | exact Nat.le_refl _ | exact Nat.le_of_ble_eq_true rfl) ?_ | refine S.store rfl rfl (by (repeat' (first | assumption | exact AHeap.set_same _ _ _ | refine AHeap.get_fresh (by assumption) ?_ | refine AHeap.so ?_ ?_ | exact AHeap.n1 (by assumption) | exact AHeap.n2 (by assumption) | exact AHeap.ne_of (by assumption) (by assumption) | exact AHeap.n4 (by assumption) (by assumption) | exact AHeap.n5 (by assumption) | exact AHeap.n6 (by assumption) | exact AHeap.n7 (by assumption) (by assumption) | exact AHeap.n8 (by assumption) (by assumption))); first | done | fail) rfl rfl rfl (by rfl) rfl ?_)
        | refine S.skip rfl ?_
        | refine S.skip0 rfl ?_
        | refine S.seq ?_
        | refine S.region ?_
        | refine S.regionT ?_
        | refine S.tstep ?_
        | refine S.talt ?_ ?_
        | exact S.tstop
        | refine S.tdone ?_
        | refine S.condT rfl ?_
        | refine S.condF rfl ?_
        | refine RRun.skip ?_
        | refine RRun.block ?_
        | refine RRun.inBlock ?_
        | refine RRun.exit rfl ?_)
      exact S.keep [0, 1, 4, 7, 8, 11] rfl hk
    | true =>
      rw [hD] at cD
      have hz : digits (s.drop j) = s[j] :: digits (s.drop (j + 1)) := by rw [hd, digits_yes _ hD]
      rw [hz] at hk
      obtain ⟨d1, d2⟩ := isDigit_spec hD
      have go : ∀ (n2 : Int), (∀ x, numStep o s[j] = some x → x = n2) → Fits n2 → 0 ≤ n2 → RRun Try.prog Try.f13 186 (.inLoop r13l1 :: .inBlock 3 :: k) (Env.get [(0, str s), (1, i64 i), (4, ptr b4), (7, ptr b), (8, i64 (j + 1 : Nat)), (11, bl (numStep o s[j]).isSome)]) (h.set b (.box (Tok.cells ⟨2, [], n2, i⟩))) Q := fun n2 h1 h2 h3 => by
        refine ih (j + 1) (numStep o s[j]) n2 _ (by omega) h1 h2 h3 (AHeap.set_same _ _ _) fun n' hn' => ?_
        rw [AHeap.set_set]
        have := hk n' hn'
        have e1 : j + 1 + (digits (s.drop (j + 1))).length = j + (s[j] :: digits (s.drop (j + 1))).length := by simp; omega
        rw [e1]; exact this
      generalize s[j] = c at cD hg d1 d2 go
      have hnf := num_fits (d := (c.toNat : Int) - 48) hn (by omega) (by omega)
      have hnb := num_bound (d := (c.toNat : Int) - 48) (by omega) (by omega)
      have hsub : IntKind.i64.wrap (9223372036854775807 - ((c.toNat : Int) - 48)) = 9223372036854775807 - ((c.toNat : Int) - 48) := wrap_i64 (by omega) (by omega)
      have hquo : binInt .quo .i64 (9223372036854775807 - ((c.toNat : Int) - 48)) 10 = some (.int .i64 ((9223372036854775807 - ((c.toNat : Int) - 48)).tdiv 10)) := by
        simp only [binInt]
        rw [if_neg (by decide), wrap_i64 hnb.1 hnb.2]
      generalize (9223372036854775807 - ((c.toNat : Int) - 48)).tdiv 10 = q at hnf hquo
      cases ho2 : o with
      | none =>
        subst ho2
        have f1 := go n (fun x e => by cases e) hf hn
        rw [AHeap.set_eq h hb'] at f1
        repeat' (first
          | refine S.nilK ?_
          | (refine S.op rfl ?_; first
            | refine S.lenS rfl ?_
            | refine S.indexS rfl rfl (by omega) hg ?_
            | refine R.callQ (by decide) rfl cD ?_
            | refine sub48 d1 d2 rfl ?_
            | refine conv8 rfl (by omega) ?_
            | refine R.mv rfl ?_
            | refine R.fieldAddr rfl ?_
            | refine R.fieldAddrR rfl ?_
            | refine R.nilCheck rfl ?_
            | refine R.nilCheckR rfl ?_
            | refine R.loadR rfl rfl ?_
            | refine R.load (by decide) rfl (by (repeat' (first | assumption | exact AHeap.set_same _ _ _ | refine AHeap.get_fresh (by assumption) ?_ | refine AHeap.so ?_ ?_ | exact AHeap.n1 (by assumption) | exact AHeap.n2 (by assumption) | exact AHeap.ne_of (by assumption) (by assumption) | exact AHeap.n4 (by assumption) (by assumption) | exact AHeap.n5 (by assumption) | exact AHeap.n6 (by assumption) | exact AHeap.n7 (by assumption) (by assumption) | exact AHeap.n8 (by assumption) (by assumption))); first | done | fail) rfl ?_
            | refine S.addI rfl rfl (by omega) ?_
            | refine S.subI rfl rfl (by omega) ?_
            | refine S.addU rfl rfl ?_
            | refine S.subU rfl rfl ?_
            | refine S.addUc rfl (by decide) ?_
            | refine S.subUc rfl (by decide) ?_
            | refine S.arith rfl rfl rfl ?_
            | refine R.pickT rfl rfl ?_
            | refine R.pickF rfl rfl ?_
            | refine R.len rfl ?_
            | refine R.lenA rfl ?_
            | refine R.lenStr rfl ?_
            | refine S.convIU rfl (by omega) ?_
            | refine S.convUI rfl (by omega) ?_
            | refine R.convInt rfl ?_
            | refine R.not rfl ?_
            | refine R.eqPtrNil rfl rfl ?_
            | refine R.extract rfl rfl ?_
            | refine R.field rfl rfl ?_
            | refine R.alloc rfl (fun b hb => ?_)
            | refine R.box rfl rfl rfl (fun b hb => ?_)
            | refine R.build rfl rfl ?_
            | refine R.buildSl rfl rfl rfl (by decide) ?_
            | refine R.toStr rfl ?_
            | refine R.convStr rfl ?_
            | refine R.minmax rfl ?_
            | refine R.makeFunc rfl rfl ?_
            | (first | refine S.lss rfl rfl (fun hlt => ?_) (fun hlt => by exfalso; omega) | refine S.lss rfl rfl (fun hlt => by exfalso; omega) (fun hlt => ?_) | refine S.lss rfl rfl (fun hlt => ?_) (fun hlt => ?_))
            | (first | refine S.gtr rfl rfl (fun hlt => ?_) (fun hlt => by exfalso; omega) | refine S.gtr rfl rfl (fun hlt => by exfalso; omega) (fun hlt => ?_) | refine S.gtr rfl rfl (fun hlt => ?_) (fun hlt => ?_))
            | (first | refine S.leq rfl rfl (fun hlt => ?_) (fun hlt => by exfalso; omega) | refine S.leq rfl rfl (fun hlt => by exfalso; omega) (fun hlt => ?_) | refine S.leq rfl rfl (fun hlt => ?_) (fun hlt => ?_))
            | (first | refine S.geq rfl rfl (fun hlt => ?_) (fun hlt => by exfalso; omega) | refine S.geq rfl rfl (fun hlt => by exfalso; omega) (fun hlt => ?_) | refine S.geq rfl rfl (fun hlt => ?_) (fun hlt => ?_))
            | (first | refine S.eqInt rfl rfl (fun hlt => ?_) (fun hlt => by exfalso; omega) | refine S.eqInt rfl rfl (fun hlt => by exfalso; omega) (fun hlt => ?_) | refine S.eqInt rfl rfl (fun hlt => ?_) (fun hlt => ?_)))
          | (refine S.op0 rfl ?_; first | refine S.storeS rfl rfl rfl (by rfl) rfl (by first | decide | exact Nat.le_refl _ | exact Nat.le_of_ble_eq_true rfl) ?_ | refine S.store rfl rfl (by (repeat' (first | assumption | exact AHeap.set_same _ _ _ | refine AHeap.get_fresh (by assumption) ?_ | refine AHeap.so ?_ ?_ | exact AHeap.n1 (by assumption) | exact AHeap.n2 (by assumption) | exact AHeap.ne_of (by assumption) (by assumption) | exact AHeap.n4 (by assumption) (by assumption) | exact AHeap.n5 (by assumption) | exact AHeap.n6 (by assumption) | exact AHeap.n7 (by assumption) (by assumption) | exact AHeap.n8 (by assumption) (by assumption))); first | done | fail) rfl rfl rfl (by rfl) rfl ?_)
          | refine S.skip rfl ?_
          | refine S.skip0 rfl ?_
          | refine S.seq ?_
          | refine S.region ?_
          | refine S.regionT ?_
          | refine S.tstep ?_
          | refine S.talt ?_ ?_
          | exact S.tstop
          | refine S.tdone ?_
          | refine S.condT rfl ?_
          | refine S.condF rfl ?_
          | refine RRun.skip ?_
          | refine RRun.block ?_
          | refine RRun.inBlock ?_
          | refine RRun.exit rfl ?_)
        rw [show ((j : Int) + 1) = ((j + 1 : Nat) : Int) by omega]
        exact S.keep [0, 1, 4, 7, 8, 11] rfl f1
      | some x =>
        subst ho2
        obtain rfl := ho x rfl
        by_cases hle : x ≤ q
        · obtain ⟨g1, g2⟩ := hnf.1 hle
          have hst : numStep (some x) c = some (x * 10 + ((c.toNat : Int) - 48)) := by simp only [numStep, if_pos g1, if_pos g2]
          have f1 := go (x * 10 + ((c.toNat : Int) - 48)) (fun y e => by rw [hst] at e; cases e; rfl) g2 (by omega)
          rw [hst] at f1
          have w1 : IntKind.i64.wrap (x * 10) = x * 10 := wrap_i64 g1.1 g1.2
          repeat' (first
            | refine S.nilK ?_
            | (refine S.op rfl ?_; first
              | refine S.lenS rfl ?_
              | refine S.indexS rfl rfl (by omega) hg ?_
              | refine R.callQ (by decide) rfl cD ?_
              | refine sub48 d1 d2 rfl ?_
              | refine conv8 rfl (by omega) ?_
              | refine R.bin rfl rfl hquo ?_
              | refine R.bin rfl rfl (show binInt .mul .i64 x 10 = some (.int .i64 (x * 10)) from congrArg (fun n => some (Value.int .i64 n)) w1) ?_
              | refine R.mv rfl ?_
              | refine R.fieldAddr rfl ?_
              | refine R.fieldAddrR rfl ?_
              | refine R.nilCheck rfl ?_
              | refine R.nilCheckR rfl ?_
              | refine R.loadR rfl rfl ?_
              | refine R.load (by decide) rfl (by (repeat' (first | assumption | exact AHeap.set_same _ _ _ | refine AHeap.get_fresh (by assumption) ?_ | refine AHeap.so ?_ ?_ | exact AHeap.n1 (by assumption) | exact AHeap.n2 (by assumption) | exact AHeap.ne_of (by assumption) (by assumption) | exact AHeap.n4 (by assumption) (by assumption) | exact AHeap.n5 (by assumption) | exact AHeap.n6 (by assumption) | exact AHeap.n7 (by assumption) (by assumption) | exact AHeap.n8 (by assumption) (by assumption))); first | done | fail) rfl ?_
              | refine S.addI rfl rfl (by omega) ?_
              | refine S.subI rfl rfl (by omega) ?_
              | refine S.addU rfl rfl ?_
              | refine S.subU rfl rfl ?_
              | refine S.addUc rfl (by decide) ?_
              | refine S.subUc rfl (by decide) ?_
              | refine S.arith rfl rfl rfl ?_
              | refine R.pickT rfl rfl ?_
              | refine R.pickF rfl rfl ?_
              | refine R.len rfl ?_
              | refine R.lenA rfl ?_
              | refine R.lenStr rfl ?_
              | refine S.convIU rfl (by omega) ?_
              | refine S.convUI rfl (by omega) ?_
              | refine R.convInt rfl ?_
              | refine R.not rfl ?_
              | refine R.eqPtrNil rfl rfl ?_
              | refine R.extract rfl rfl ?_
              | refine R.field rfl rfl ?_
              | refine R.alloc rfl (fun b hb => ?_)
              | refine R.box rfl rfl rfl (fun b hb => ?_)
              | refine R.build rfl rfl ?_
              | refine R.buildSl rfl rfl rfl (by decide) ?_
              | refine R.toStr rfl ?_
              | refine R.convStr rfl ?_
              | refine R.minmax rfl ?_
              | refine R.makeFunc rfl rfl ?_
              | (first | refine S.lss rfl rfl (fun hlt => ?_) (fun hlt => by exfalso; omega) | refine S.lss rfl rfl (fun hlt => by exfalso; omega) (fun hlt => ?_) | refine S.lss rfl rfl (fun hlt => ?_) (fun hlt => ?_))
              | (first | refine S.gtr rfl rfl (fun hlt => ?_) (fun hlt => by exfalso; omega) | refine S.gtr rfl rfl (fun hlt => by exfalso; omega) (fun hlt => ?_) | refine S.gtr rfl rfl (fun hlt => ?_) (fun hlt => ?_))
              | (first | refine S.leq rfl rfl (fun hlt => ?_) (fun hlt => by exfalso; omega) | refine S.leq rfl rfl (fun hlt => by exfalso; omega) (fun hlt => ?_) | refine S.leq rfl rfl (fun hlt => ?_) (fun hlt => ?_))
              | (first | refine S.geq rfl rfl (fun hlt => ?_) (fun hlt => by exfalso; omega) | refine S.geq rfl rfl (fun hlt => by exfalso; omega) (fun hlt => ?_) | refine S.geq rfl rfl (fun hlt => ?_) (fun hlt => ?_))
              | (first | refine S.eqInt rfl rfl (fun hlt => ?_) (fun hlt => by exfalso; omega) | refine S.eqInt rfl rfl (fun hlt => by exfalso; omega) (fun hlt => ?_) | refine S.eqInt rfl rfl (fun hlt => ?_) (fun hlt => ?_)))
            | (refine S.op0 rfl ?_; first | refine S.storeS rfl rfl rfl (by rfl) rfl (by first | decide | exact Nat.le_refl _ | exact Nat.le_of_ble_eq_true rfl) ?_ | refine S.store rfl rfl (by (repeat' (first | assumption | exact AHeap.set_same _ _ _ | refine AHeap.get_fresh (by assumption) ?_ | refine AHeap.so ?_ ?_ | exact AHeap.n1 (by assumption) | exact AHeap.n2 (by assumption) | exact AHeap.ne_of (by assumption) (by assumption) | exact AHeap.n4 (by assumption) (by assumption) | exact AHeap.n5 (by assumption) | exact AHeap.n6 (by assumption) | exact AHeap.n7 (by assumption) (by assumption) | exact AHeap.n8 (by assumption) (by assumption))); first | done | fail) rfl rfl rfl (by rfl) rfl ?_)
            | refine S.skip rfl ?_
            | refine S.skip0 rfl ?_
            | refine S.seq ?_
            | refine S.region ?_
            | refine S.regionT ?_
            | refine S.tstep ?_
            | refine S.talt ?_ ?_
            | exact S.tstop
            | refine S.tdone ?_
            | refine S.condT rfl ?_
            | refine S.condF rfl ?_
            | refine RRun.skip ?_
            | refine RRun.block ?_
            | refine RRun.inBlock ?_
            | refine RRun.exit rfl ?_)
          rw [show ((j : Int) + 1) = ((j + 1 : Nat) : Int) by omega]
          exact S.keep [0, 1, 4, 7, 8, 11] rfl f1
        · have hst : numStep (some x) c = none := by
            by_cases g1 : Fits (x * 10)
            · by_cases g2 : Fits (x * 10 + ((c.toNat : Int) - 48))
              · exact absurd (hnf.2 ⟨g1, g2⟩) hle
              · simp only [numStep, if_pos g1, if_neg g2]
            · simp only [numStep, if_neg g1]
          have f1 := go x (fun y e => by rw [hst] at e; cases e) hf hn
          rw [hst, AHeap.set_eq h hb'] at f1
          repeat' (first
            | refine S.nilK ?_
            | (refine S.op rfl ?_; first
              | refine S.lenS rfl ?_
              | refine S.indexS rfl rfl (by omega) hg ?_
              | refine R.callQ (by decide) rfl cD ?_
              | refine sub48 d1 d2 rfl ?_
              | refine conv8 rfl (by omega) ?_
              | refine R.bin rfl rfl hquo ?_
              | refine R.mv rfl ?_
              | refine R.fieldAddr rfl ?_
              | refine R.fieldAddrR rfl ?_
              | refine R.nilCheck rfl ?_
              | refine R.nilCheckR rfl ?_
              | refine R.loadR rfl rfl ?_
              | refine R.load (by decide) rfl (by (repeat' (first | assumption | exact AHeap.set_same _ _ _ | refine AHeap.get_fresh (by assumption) ?_ | refine AHeap.so ?_ ?_ | exact AHeap.n1 (by assumption) | exact AHeap.n2 (by assumption) | exact AHeap.ne_of (by assumption) (by assumption) | exact AHeap.n4 (by assumption) (by assumption) | exact AHeap.n5 (by assumption) | exact AHeap.n6 (by assumption) | exact AHeap.n7 (by assumption) (by assumption) | exact AHeap.n8 (by assumption) (by assumption))); first | done | fail) rfl ?_
              | refine S.addI rfl rfl (by omega) ?_
              | refine S.subI rfl rfl (by omega) ?_
              | refine S.addU rfl rfl ?_
              | refine S.subU rfl rfl ?_
              | refine S.addUc rfl (by decide) ?_
              | refine S.subUc rfl (by decide) ?_
              | refine S.arith rfl rfl rfl ?_
              | refine R.pickT rfl rfl ?_
              | refine R.pickF rfl rfl ?_
              | refine R.len rfl ?_
              | refine R.lenA rfl ?_
              | refine R.lenStr rfl ?_
              | refine S.convIU rfl (by omega) ?_
              | refine S.convUI rfl (by omega) ?_
              | refine R.convInt rfl ?_
              | refine R.not rfl ?_
              | refine R.eqPtrNil rfl rfl ?_
              | refine R.extract rfl rfl ?_
              | refine R.field rfl rfl ?_
              | refine R.alloc rfl (fun b hb => ?_)
              | refine R.box rfl rfl rfl (fun b hb => ?_)
              | refine R.build rfl rfl ?_
              | refine R.buildSl rfl rfl rfl (by decide) ?_
              | refine R.toStr rfl ?_
              | refine R.convStr rfl ?_
              | refine R.minmax rfl ?_
              | refine R.makeFunc rfl rfl ?_
              | (first | refine S.lss rfl rfl (fun hlt => ?_) (fun hlt => by exfalso; omega) | refine S.lss rfl rfl (fun hlt => by exfalso; omega) (fun hlt => ?_) | refine S.lss rfl rfl (fun hlt => ?_) (fun hlt => ?_))
              | (first | refine S.gtr rfl rfl (fun hlt => ?_) (fun hlt => by exfalso; omega) | refine S.gtr rfl rfl (fun hlt => by exfalso; omega) (fun hlt => ?_) | refine S.gtr rfl rfl (fun hlt => ?_) (fun hlt => ?_))
              | (first | refine S.leq rfl rfl (fun hlt => ?_) (fun hlt => by exfalso; omega) | refine S.leq rfl rfl (fun hlt => by exfalso; omega) (fun hlt => ?_) | refine S.leq rfl rfl (fun hlt => ?_) (fun hlt => ?_))
              | (first | refine S.geq rfl rfl (fun hlt => ?_) (fun hlt => by exfalso; omega) | refine S.geq rfl rfl (fun hlt => by exfalso; omega) (fun hlt => ?_) | refine S.geq rfl rfl (fun hlt => ?_) (fun hlt => ?_))
              | (first | refine S.eqInt rfl rfl (fun hlt => ?_) (fun hlt => by exfalso; omega) | refine S.eqInt rfl rfl (fun hlt => by exfalso; omega) (fun hlt => ?_) | refine S.eqInt rfl rfl (fun hlt => ?_) (fun hlt => ?_)))
            | (refine S.op0 rfl ?_; first | refine S.storeS rfl rfl rfl (by rfl) rfl (by first | decide | exact Nat.le_refl _ | exact Nat.le_of_ble_eq_true rfl) ?_ | refine S.store rfl rfl (by (repeat' (first | assumption | exact AHeap.set_same _ _ _ | refine AHeap.get_fresh (by assumption) ?_ | refine AHeap.so ?_ ?_ | exact AHeap.n1 (by assumption) | exact AHeap.n2 (by assumption) | exact AHeap.ne_of (by assumption) (by assumption) | exact AHeap.n4 (by assumption) (by assumption) | exact AHeap.n5 (by assumption) | exact AHeap.n6 (by assumption) | exact AHeap.n7 (by assumption) (by assumption) | exact AHeap.n8 (by assumption) (by assumption))); first | done | fail) rfl rfl rfl (by rfl) rfl ?_)
            | refine S.skip rfl ?_
            | refine S.skip0 rfl ?_
            | refine S.seq ?_
            | refine S.region ?_
            | refine S.regionT ?_
            | refine S.tstep ?_
            | refine S.talt ?_ ?_
            | exact S.tstop
            | refine S.tdone ?_
            | refine S.condT rfl ?_
            | refine S.condF rfl ?_
            | refine RRun.skip ?_
            | refine RRun.block ?_
            | refine RRun.inBlock ?_
            | refine RRun.exit rfl ?_)
          rw [show ((j : Int) + 1) = ((j + 1 : Nat) : Int) by omega]
          exact S.keep [0, 1, 4, 7, 8, 11] rfl f1

end Go.Proofs.Ytcjcmegkfplnkaa
