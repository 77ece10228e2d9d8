import Derived.Test.YtcjcmegkfplnkaaL11
set_option linter.unusedVariables false
set_option linter.unusedSimpArgs false
namespace Go.Proofs.Ytcjcmegkfplnkaa
open Go.Av


theorem qquo_loop (s : List UInt8) (hs : s.length ≤ 2000000) (b4 b i : Nat) (hbb : b4 ≠ b) (h0 : AHeap) (z : List AV) (hb4 : h0 b4 = some (.box z)) (hz : z.length = 4) (k : List RT) (Q : AV → AHeap → Prop) : ∀ (m j : Nat) (acc : List UInt8), s.length - j ≤ m → j ≤ s.length → acc.length ≤ j →
    (match quo (s.drop j) with
     | some (l, n) => Q (.tu [.ag (Tok.cells ⟨3, acc ++ l, 0, i⟩), i64 (j + n : Nat), bl (decide ((acc ++ l).length ≤ 1000))]) ((h0.set b (.box (Tok.cells ⟨3, acc ++ l, 0, i⟩))).set b4 (.box (Tok.cells ⟨3, acc ++ l, 0, i⟩)))
     | none => ∀ acc' (j' : Nat), RRun Try.prog Try.f13 186 k (Env.get [(0, str s), (1, i64 i), (4, ptr b4), (7, ptr b), (8, i64 j')]) (h0.set b (.box (Tok.cells ⟨3, acc', 0, i⟩))) Q) →
    RRun Try.prog Try.f13 186 (.inLoop r13l2 :: .inBlock 5 :: k) (Env.get [(0, str s), (1, i64 i), (4, ptr b4), (7, ptr b), (8, i64 j)]) (h0.set b (.box (Tok.cells ⟨3, acc, 0, i⟩))) Q := by
  intro m
  induction m using Nat.strongRecOn with
  | ind m ih =>
    intro j acc hm hj hacc hk
    have hb : (h0.set b (.box (Tok.cells ⟨3, acc, 0, i⟩))) b = some (.box [i64 3, str acc, i64 0, i64 i]) := AHeap.set_same _ _ _
    have hb4' : (h0.set b (.box (Tok.cells ⟨3, acc, 0, i⟩))) b4 = some (.box z) := (AHeap.set_other _ _ hbb).trans hb4
    have next : ∀ (x : UInt8) (d : Nat), 1 ≤ d → j + d ≤ s.length →
        (match (quo (s.drop (j + d))).map (fun q => (x :: q.1, q.2 + d)) with
         | some (l, n) => Q (.tu [.ag (Tok.cells ⟨3, acc ++ l, 0, i⟩), i64 (j + n : Nat), bl (decide ((acc ++ l).length ≤ 1000))]) ((h0.set b (.box (Tok.cells ⟨3, acc ++ l, 0, i⟩))).set b4 (.box (Tok.cells ⟨3, acc ++ l, 0, i⟩)))
         | none => ∀ acc' (j' : Nat), RRun Try.prog Try.f13 186 k (Env.get [(0, str s), (1, i64 i), (4, ptr b4), (7, ptr b), (8, i64 j')]) (h0.set b (.box (Tok.cells ⟨3, acc', 0, i⟩))) Q) →
        RRun Try.prog Try.f13 186 (.inLoop r13l2 :: .inBlock 5 :: k) (Env.get [(0, str s), (1, i64 i), (4, ptr b4), (7, ptr b), (8, i64 (j + d : Nat))]) ((h0.set b (.box (Tok.cells ⟨3, acc, 0, i⟩))).set b (.box (Tok.cells ⟨3, acc ++ [x], 0, i⟩))) Q := by
      intro x d hd1 hjd hk
      rw [AHeap.set_set]
      refine ih (s.length - (j + d)) (by omega) (j + d) (acc ++ [x]) (Nat.le_refl _) hjd (by simp; omega) ?_
      cases hq : quo (s.drop (j + d)) with
      | none => rw [hq] at hk; exact hk
      | some ln =>
        obtain ⟨l, n⟩ := ln
        rw [hq] at hk
        have : Q (.tu [.ag (Tok.cells ⟨3, acc ++ x :: l, 0, i⟩), i64 (j + (n + d) : Nat), bl (decide ((acc ++ x :: l).length ≤ 1000))]) ((h0.set b (.box (Tok.cells ⟨3, acc ++ x :: l, 0, i⟩))).set b4 (.box (Tok.cells ⟨3, acc ++ x :: l, 0, i⟩))) := hk
        rw [show acc ++ x :: l = acc ++ [x] ++ l by simp, show j + (n + d) = j + d + n by omega] at this
        exact this
    rcases Nat.lt_or_ge j s.length with hlt | hge
    · have hd : s.drop j = s[j] :: s.drop (j + 1) := List.drop_eq_getElem_cons hlt
      have hg1 : s[j]? = some s[j] := by simp [hlt]
      rw [hd] at hk
      generalize s[j] = x at hk hg1
      by_cases hx : x = 39
      · subst hx
        rcases Nat.lt_or_ge (j + 1) s.length with hlt2 | hge2
        · have hd2 : s.drop (j + 1) = s[j + 1] :: s.drop (j + 2) := List.drop_eq_getElem_cons hlt2
          have hg2 : s[j + 1]? = some s[j + 1] := by simp [hlt2]
          rw [hd2] at hk
          generalize s[j + 1] = y at hk hg2
          by_cases hy : y = 39
          · subst hy
            rw [quo_two] at hk
            exact qq_two s hs b4 b i j hbb _ acc hacc hb z hz hb4' k Q hg1 hg2 (next 39 2 (by omega) (by omega) hk)
          · rw [quo_stop _ hy] at hk
            have hk : Q (.tu [.ag (Tok.cells ⟨3, acc ++ [], 0, i⟩), i64 (j + 1 : Nat), bl (decide ((acc ++ []).length ≤ 1000))]) ((h0.set b (.box (Tok.cells ⟨3, acc ++ [], 0, i⟩))).set b4 (.box (Tok.cells ⟨3, acc ++ [], 0, i⟩))) := hk
            rw [List.append_nil] at hk
            exact qq_stop s hs b4 b i j hbb _ acc hacc hb z hz hb4' k Q y hg1 hg2 hy hk
        · have hd2 : s.drop (j + 1) = [] := by simp; omega
          rw [hd2, quo_end] at hk
          have hk : Q (.tu [.ag (Tok.cells ⟨3, acc ++ [], 0, i⟩), i64 (j + 1 : Nat), bl (decide ((acc ++ []).length ≤ 1000))]) ((h0.set b (.box (Tok.cells ⟨3, acc ++ [], 0, i⟩))).set b4 (.box (Tok.cells ⟨3, acc ++ [], 0, i⟩))) := hk
          rw [List.append_nil] at hk
          exact qq_end s hs b4 b i j hbb _ acc hacc hb z hz hb4' k Q hg1 (by omega) hk
      · rw [quo_ne _ hx] at hk
        exact qq_ne s hs b4 b i j hbb _ acc hacc hb z hz hb4' k Q x hg1 hx (next x 1 (by omega) (by omega) hk)
    · have hd : s.drop j = [] := by simp; omega
      rw [hd, quo_nil] at hk
      have hk := hk acc j
      refine RRun.inLoop ?_
      repeat' (first
        | refine S.nilK ?_
        | (refine S.op rfl ?_; first
          | refine S.lenS rfl ?_
          | refine R.mv rfl ?_
          | refine R.fieldAddr rfl ?_
          | refine R.fieldAddrR rfl ?_
          | refine R.nilCheck rfl ?_
          | refine R.nilCheckR rfl ?_
          | refine R.loadR rfl rfl ?_
          | refine R.load (by decide) rfl (by (repeat' (first | assumption | exact AHeap.set_same _ _ _ | refine AHeap.get_fresh (by assumption) ?_ | refine AHeap.so ?_ ?_ | exact AHeap.n1 (by assumption) | exact AHeap.n2 (by assumption) | exact AHeap.ne_of (by assumption) (by assumption) | exact AHeap.n4 (by assumption) (by assumption) | exact AHeap.n5 (by assumption) | exact AHeap.n6 (by assumption) | exact AHeap.n7 (by assumption) (by assumption) | exact AHeap.n8 (by assumption) (by assumption))); first | done | fail) rfl ?_
          | refine S.addI rfl rfl (by omega) ?_
          | refine S.subI rfl rfl (by omega) ?_
          | refine S.addU rfl rfl ?_
          | refine S.subU rfl rfl ?_
          | refine S.addUc rfl (by decide) ?_
          | refine S.subUc rfl (by decide) ?_
          | refine S.arith rfl rfl rfl ?_
          | refine R.pickT rfl rfl ?_
          | refine R.pickF rfl rfl ?_
          | refine R.len rfl ?_
          | refine R.lenA rfl ?_
          | refine R.lenStr rfl ?_
          | refine S.convIU rfl (by omega) ?_
          | refine S.convUI rfl (by omega) ?_
          | refine R.convInt rfl ?_
          | refine R.not rfl ?_
          | refine R.eqPtrNil rfl rfl ?_
          | refine R.extract rfl rfl ?_
          | refine R.field rfl rfl ?_
          | refine R.alloc rfl (fun b hb => ?_)
          | refine R.box rfl rfl rfl (fun b hb => ?_)
          | refine R.build rfl rfl ?_
          | refine R.buildSl rfl rfl rfl (by decide) ?_
          | refine R.toStr rfl ?_
          | refine R.convStr rfl ?_
          | refine R.minmax rfl ?_
          | refine R.makeFunc rfl rfl ?_
          | (first | refine S.lss rfl rfl (fun hlt => ?_) (fun hlt => by exfalso; omega) | refine S.lss rfl rfl (fun hlt => by exfalso; omega) (fun hlt => ?_) | refine S.lss rfl rfl (fun hlt => ?_) (fun hlt => ?_))
          | (first | refine S.gtr rfl rfl (fun hlt => ?_) (fun hlt => by exfalso; omega) | refine S.gtr rfl rfl (fun hlt => by exfalso; omega) (fun hlt => ?_) | refine S.gtr rfl rfl (fun hlt => ?_) (fun hlt => ?_))
          | (first | refine S.leq rfl rfl (fun hlt => ?_) (fun hlt => by exfalso; omega) | refine S.leq rfl rfl (fun hlt => by exfalso; omega) (fun hlt => ?_) | refine S.leq rfl rfl (fun hlt => ?_) (fun hlt => ?_))
          | (first | refine S.geq rfl rfl (fun hlt => ?_) (fun hlt => by exfalso; omega) | refine S.geq rfl rfl (fun hlt => by exfalso; omega) (fun hlt => ?_) | refine S.geq rfl rfl (fun hlt => ?_) (fun hlt => ?_))
          | (first | refine S.eqInt rfl rfl (fun hlt => ?_) (fun hlt => by exfalso; omega) | refine S.eqInt rfl rfl (fun hlt => by exfalso; omega) (fun hlt => ?_) | refine S.eqInt rfl rfl (fun hlt => ?_) (fun hlt => ?_)))
        | (refine S.op0 rfl ?_; first | refine S.storeS rfl rfl rfl (by rfl) rfl (by first | decide | exact Nat.le_refl _ | exact Nat.le_of_ble_eq_true rfl) ?_ | refine S.store rfl rfl (by (repeat' (first | assumption | exact AHeap.set_same _ _ _ | refine AHeap.get_fresh (by assumption) ?_ | refine AHeap.so ?_ ?_ | exact AHeap.n1 (by assumption) | exact AHeap.n2 (by assumption) | exact AHeap.ne_of (by assumption) (by assumption) | exact AHeap.n4 (by assumption) (by assumption) | exact AHeap.n5 (by assumption) | exact AHeap.n6 (by assumption) | exact AHeap.n7 (by assumption) (by assumption) | exact AHeap.n8 (by assumption) (by assumption))); first | done | fail) rfl rfl rfl (by rfl) rfl ?_)
        | refine S.skip rfl ?_
        | refine S.skip0 rfl ?_
        | refine S.seq ?_
        | refine S.region ?_
        | refine S.regionT ?_
        | refine S.tstep ?_
        | refine S.talt ?_ ?_
        | exact S.tstop
        | refine S.tdone ?_
        | refine S.condT rfl ?_
        | refine S.condF rfl ?_
        | refine RRun.skip ?_
        | refine RRun.block ?_
        | refine RRun.inBlock ?_
        | refine RRun.exit rfl ?_)
      exact S.keep [0, 1, 4, 7, 8] rfl hk

/-! ### Marks, as the reference has them -/

def marks15 : List (List UInt8) := [[60, 61], [62, 61], [60, 62], [40], [41], [44], [42], [43], [45], [47], [37], [61], [60], [62], [46]]

theorem S.eqSB {P : Program} {c : Cls} {E : AEnv} {h : AHeap} {K : AV → AHeap → Prop} {neg : Bool} {kk : EqK} {x y : Operand} {a b : List UInt8} {r : Bool} (hx : aev E x = some (str a)) (hy : aev E y = some (str b)) (hr : (a == b) = r) (hk : K (.v (.bool (if neg then !r else r))) h) : ROpS P c (.eq neg kk x y) E h K :=
  S.eqS hx hy (by rw [hr]; exact hk)

theorem pre_take {m t : List UInt8} : m.isPrefixOf t = true ↔ (m.length ≤ t.length ∧ t.take m.length = m) := by
  rw [List.isPrefixOf_iff_prefix]
  constructor
  · intro h; exact ⟨h.length_le, (List.prefix_iff_eq_take.1 h).symm⟩
  · rintro ⟨_, h⟩; exact List.prefix_iff_eq_take.2 h.symm

theorem qmark_loop (s : List UInt8) (hs : s.length ≤ 2000000) (b4 b i : Nat) (hi : i < s.length) (h : AHeap) (hbb : b4 ≠ b) (hb : h b = some (.box [i64 4, str [], i64 0, i64 i])) (z0 z1 z2 z3 : AV) (hb4 : h b4 = some (.box [z0, z1, z2, z3])) (ms : List (List UInt8)) (hms : ms.length ≤ 100) (hml : ∀ m ∈ ms, m.length ≤ 2) (k : List RT) (Q : AV → AHeap → Prop) : ∀ (n j : Nat), j + n = ms.length →
    (match (ms.drop j).find? (fun m => m.isPrefixOf (s.drop i)) with
     | some m => Q (.tu [.ag (Tok.cells ⟨4, m, 0, i⟩), i64 (i + m.length : Nat), bl true]) ((h.set b (.box (Tok.cells ⟨4, m, 0, i⟩))).set b4 (.box (Tok.cells ⟨4, m, 0, i⟩)))
     | none => RRun Try.prog Try.f13 186 k (Env.get [(0, str s), (1, i64 i), (4, ptr b4), (7, ptr b)]) h Q) →
    RRun Try.prog Try.f13 186 (.inLoop r13l3 :: .inBlock 7 :: k) (Env.get [(154, i64 j), (153, i64 ms.length), (152, .sl 1 (ms.map fun m => [str m]) .full), (0, str s), (1, i64 i), (4, ptr b4), (7, ptr b)]) h Q := by
  have hbb' := Ne.symm hbb
  intro n
  induction n with
  | zero =>
    intro j hj hk
    have hd : ms.drop j = [] := by simp; omega
    rw [hd] at hk
    refine RRun.inLoop ?_
    repeat' (first
      | refine S.nilK ?_
      | (refine S.op rfl ?_; first
        | refine R.mv rfl ?_
        | refine R.fieldAddr rfl ?_
        | refine R.fieldAddrR rfl ?_
        | refine R.nilCheck rfl ?_
        | refine R.nilCheckR rfl ?_
        | refine R.loadR rfl rfl ?_
        | refine R.load (by decide) rfl (by (repeat' (first | assumption | exact AHeap.set_same _ _ _ | refine AHeap.get_fresh (by assumption) ?_ | refine AHeap.so ?_ ?_ | exact AHeap.n1 (by assumption) | exact AHeap.n2 (by assumption) | exact AHeap.ne_of (by assumption) (by assumption) | exact AHeap.n4 (by assumption) (by assumption) | exact AHeap.n5 (by assumption) | exact AHeap.n6 (by assumption) | exact AHeap.n7 (by assumption) (by assumption) | exact AHeap.n8 (by assumption) (by assumption))); first | done | fail) rfl ?_
        | refine S.addI rfl rfl (by omega) ?_
        | refine S.subI rfl rfl (by omega) ?_
        | refine S.addU rfl rfl ?_
        | refine S.subU rfl rfl ?_
        | refine S.addUc rfl (by decide) ?_
        | refine S.subUc rfl (by decide) ?_
        | refine S.arith rfl rfl rfl ?_
        | refine R.pickT rfl rfl ?_
        | refine R.pickF rfl rfl ?_
        | refine R.len rfl ?_
        | refine R.lenA rfl ?_
        | refine R.lenStr rfl ?_
        | refine S.convIU rfl (by omega) ?_
        | refine S.convUI rfl (by omega) ?_
        | refine R.convInt rfl ?_
        | refine R.not rfl ?_
        | refine R.eqPtrNil rfl rfl ?_
        | refine R.extract rfl rfl ?_
        | refine R.field rfl rfl ?_
        | refine R.alloc rfl (fun b hb => ?_)
        | refine R.box rfl rfl rfl (fun b hb => ?_)
        | refine R.build rfl rfl ?_
        | refine R.buildSl rfl rfl rfl (by decide) ?_
        | refine R.toStr rfl ?_
        | refine R.convStr rfl ?_
        | refine R.minmax rfl ?_
        | refine R.makeFunc rfl rfl ?_
        | (first | refine S.lss rfl rfl (fun hlt => ?_) (fun hlt => by exfalso; omega) | refine S.lss rfl rfl (fun hlt => by exfalso; omega) (fun hlt => ?_) | refine S.lss rfl rfl (fun hlt => ?_) (fun hlt => ?_))
        | (first | refine S.gtr rfl rfl (fun hlt => ?_) (fun hlt => by exfalso; omega) | refine S.gtr rfl rfl (fun hlt => by exfalso; omega) (fun hlt => ?_) | refine S.gtr rfl rfl (fun hlt => ?_) (fun hlt => ?_))
        | (first | refine S.leq rfl rfl (fun hlt => ?_) (fun hlt => by exfalso; omega) | refine S.leq rfl rfl (fun hlt => by exfalso; omega) (fun hlt => ?_) | refine S.leq rfl rfl (fun hlt => ?_) (fun hlt => ?_))
        | (first | refine S.geq rfl rfl (fun hlt => ?_) (fun hlt => by exfalso; omega) | refine S.geq rfl rfl (fun hlt => by exfalso; omega) (fun hlt => ?_) | refine S.geq rfl rfl (fun hlt => ?_) (fun hlt => ?_))
        | (first | refine S.eqInt rfl rfl (fun hlt => ?_) (fun hlt => by exfalso; omega) | refine S.eqInt rfl rfl (fun hlt => by exfalso; omega) (fun hlt => ?_) | refine S.eqInt rfl rfl (fun hlt => ?_) (fun hlt => ?_)))
      | (refine S.op0 rfl ?_; first | refine S.storeS rfl rfl rfl (by rfl) rfl (by first | decide | exact Nat.le_refl _ | exact Nat.le_of_ble_eq_true rfl) ?_ | refine S.store rfl rfl (by (repeat' (first | assumption | exact AHeap.set_same _ _ _ | refine AHeap.get_fresh (by assumption) ?_ | refine AHeap.so ?_ ?_ | exact AHeap.n1 (by assumption) | exact AHeap.n2 (by assumption) | exact AHeap.ne_of (by assumption) (by assumption) | exact AHeap.n4 (by assumption) (by assumption) | exact AHeap.n5 (by assumption) | exact AHeap.n6 (by assumption) | exact AHeap.n7 (by assumption) (by assumption) | exact AHeap.n8 (by assumption) (by assumption))); first | done | fail) rfl rfl rfl (by rfl) rfl ?_)
      | refine S.skip rfl ?_
      | refine S.skip0 rfl ?_
      | refine S.seq ?_
      | refine S.region ?_
      | refine S.regionT ?_
      | refine S.tstep ?_
      | refine S.talt ?_ ?_
      | exact S.tstop
      | refine S.tdone ?_
      | refine S.condT rfl ?_
      | refine S.condF rfl ?_
      | refine RRun.skip ?_
      | refine RRun.block ?_
      | refine RRun.inBlock ?_
      | refine RRun.exit rfl ?_)
    exact S.keep [0, 1, 4, 7] rfl hk
  | succ n ih =>
    intro j hj hk
    have hlt : j < ms.length := by omega
    have hd : ms.drop j = ms[j] :: ms.drop (j + 1) := List.drop_eq_getElem_cons hlt
    have hg : (ms.map fun m => [str m])[((j : Nat) : Int).toNat]? = some [str ms[j]] := by simp [hlt]
    have hl2 := hml ms[j] (List.getElem_mem hlt)
    rw [hd, List.find?_cons] at hk
    have hi' := ih (j + 1) (by omega)
    generalize ms[j] = m at hk hg hl2
    refine RRun.inLoop ?_
    by_cases hle : m.length ≤ s.length - i
    · have hcut : (s.drop ((i : Nat) : Int).toNat).take (((i : Int) + m.length).toNat - ((i : Nat) : Int).toNat) = (s.drop i).take m.length := by
        rw [show ((i : Int) + m.length).toNat - ((i : Nat) : Int).toNat = m.length by omega, show ((i : Nat) : Int).toNat = i by omega]
      by_cases he : (s.drop i).take m.length = m
      · have hp : m.isPrefixOf (s.drop i) = true := pre_take.2 ⟨by simpa using hle, he⟩
        rw [hp] at hk
        have hbeq : ((s.drop i).take m.length == m) = true := by simp [he]
        repeat' (first
          | refine S.nilK ?_
          | (refine S.op rfl ?_; first
            | refine R.indexAddr rfl rfl (by omega) hg ?_
            | refine S.lenS rfl ?_
            | refine S.sliceS rfl rfl rfl (by omega) (by omega) (by omega) ?_
            | refine S.eqSB (r := true) rfl rfl (by rw [hcut]; exact hbeq) ?_
            | refine R.mv rfl ?_
            | refine R.fieldAddr rfl ?_
            | refine R.fieldAddrR rfl ?_
            | refine R.nilCheck rfl ?_
            | refine R.nilCheckR rfl ?_
            | refine R.loadR rfl rfl ?_
            | refine R.load (by decide) rfl (by (repeat' (first | assumption | exact AHeap.set_same _ _ _ | refine AHeap.get_fresh (by assumption) ?_ | refine AHeap.so ?_ ?_ | exact AHeap.n1 (by assumption) | exact AHeap.n2 (by assumption) | exact AHeap.ne_of (by assumption) (by assumption) | exact AHeap.n4 (by assumption) (by assumption) | exact AHeap.n5 (by assumption) | exact AHeap.n6 (by assumption) | exact AHeap.n7 (by assumption) (by assumption) | exact AHeap.n8 (by assumption) (by assumption))); first | done | fail) rfl ?_
            | refine S.addI rfl rfl (by omega) ?_
            | refine S.subI rfl rfl (by omega) ?_
            | refine S.addU rfl rfl ?_
            | refine S.subU rfl rfl ?_
            | refine S.addUc rfl (by decide) ?_
            | refine S.subUc rfl (by decide) ?_
            | refine S.arith rfl rfl rfl ?_
            | refine R.pickT rfl rfl ?_
            | refine R.pickF rfl rfl ?_
            | refine R.len rfl ?_
            | refine R.lenA rfl ?_
            | refine R.lenStr rfl ?_
            | refine S.convIU rfl (by omega) ?_
            | refine S.convUI rfl (by omega) ?_
            | refine R.convInt rfl ?_
            | refine R.not rfl ?_
            | refine R.eqPtrNil rfl rfl ?_
            | refine R.extract rfl rfl ?_
            | refine R.field rfl rfl ?_
            | refine R.alloc rfl (fun b hb => ?_)
            | refine R.box rfl rfl rfl (fun b hb => ?_)
            | refine R.build rfl rfl ?_
            | refine R.buildSl rfl rfl rfl (by decide) ?_
            | refine R.toStr rfl ?_
            | refine R.convStr rfl ?_
            | refine R.minmax rfl ?_
            | refine R.makeFunc rfl rfl ?_
            | (first | refine S.lss rfl rfl (fun hlt => ?_) (fun hlt => by exfalso; omega) | refine S.lss rfl rfl (fun hlt => by exfalso; omega) (fun hlt => ?_) | refine S.lss rfl rfl (fun hlt => ?_) (fun hlt => ?_))
            | (first | refine S.gtr rfl rfl (fun hlt => ?_) (fun hlt => by exfalso; omega) | refine S.gtr rfl rfl (fun hlt => by exfalso; omega) (fun hlt => ?_) | refine S.gtr rfl rfl (fun hlt => ?_) (fun hlt => ?_))
            | (first | refine S.leq rfl rfl (fun hlt => ?_) (fun hlt => by exfalso; omega) | refine S.leq rfl rfl (fun hlt => by exfalso; omega) (fun hlt => ?_) | refine S.leq rfl rfl (fun hlt => ?_) (fun hlt => ?_))
            | (first | refine S.geq rfl rfl (fun hlt => ?_) (fun hlt => by exfalso; omega) | refine S.geq rfl rfl (fun hlt => by exfalso; omega) (fun hlt => ?_) | refine S.geq rfl rfl (fun hlt => ?_) (fun hlt => ?_))
            | (first | refine S.eqInt rfl rfl (fun hlt => ?_) (fun hlt => by exfalso; omega) | refine S.eqInt rfl rfl (fun hlt => by exfalso; omega) (fun hlt => ?_) | refine S.eqInt rfl rfl (fun hlt => ?_) (fun hlt => ?_)))
          | (refine S.op0 rfl ?_; first | refine S.storeS rfl rfl rfl (by rfl) rfl (by first | decide | exact Nat.le_refl _ | exact Nat.le_of_ble_eq_true rfl) ?_ | refine S.store rfl rfl (by (repeat' (first | assumption | exact AHeap.set_same _ _ _ | refine AHeap.get_fresh (by assumption) ?_ | refine AHeap.so ?_ ?_ | exact AHeap.n1 (by assumption) | exact AHeap.n2 (by assumption) | exact AHeap.ne_of (by assumption) (by assumption) | exact AHeap.n4 (by assumption) (by assumption) | exact AHeap.n5 (by assumption) | exact AHeap.n6 (by assumption) | exact AHeap.n7 (by assumption) (by assumption) | exact AHeap.n8 (by assumption) (by assumption))); first | done | fail) rfl rfl rfl (by rfl) rfl ?_)
          | refine S.skip rfl ?_
          | refine S.skip0 rfl ?_
          | refine S.seq ?_
          | refine S.region ?_
          | refine S.regionT ?_
          | refine S.tstep ?_
          | refine S.talt ?_ ?_
          | exact S.tstop
          | refine S.tdone ?_
          | refine S.condT rfl ?_
          | refine S.condF rfl ?_
          | refine RRun.skip ?_
          | refine RRun.block ?_
          | refine RRun.inBlock ?_
          | refine RRun.exit rfl ?_)
        apply S.ret rr13
        case hx => repeat (first | exact ResAt.nil | apply ResAt.tmp rfl | apply ResAt.cellA rfl (by (repeat' (first | assumption | exact AHeap.set_same _ _ _ | refine AHeap.get_fresh (by assumption) ?_ | refine AHeap.so ?_ ?_ | exact AHeap.n1 (by assumption) | exact AHeap.n2 (by assumption) | exact AHeap.ne_of (by assumption) (by assumption) | exact AHeap.n4 (by assumption) (by assumption) | exact AHeap.n5 (by assumption) | exact AHeap.n6 (by assumption) | exact AHeap.n7 (by assumption) (by assumption) | exact AHeap.n8 (by assumption) (by assumption))); first | done | fail) (by rfl) | apply ResAt.cell1 rfl (by (repeat' (first | assumption | exact AHeap.set_same _ _ _ | refine AHeap.get_fresh (by assumption) ?_ | refine AHeap.so ?_ ?_ | exact AHeap.n1 (by assumption) | exact AHeap.n2 (by assumption) | exact AHeap.ne_of (by assumption) (by assumption) | exact AHeap.n4 (by assumption) (by assumption) | exact AHeap.n5 (by assumption) | exact AHeap.n6 (by assumption) | exact AHeap.n7 (by assumption) (by assumption) | exact AHeap.n8 (by assumption) (by assumption))); first | done | fail) (by rfl))
        exact hk
      · have hp : m.isPrefixOf (s.drop i) = false := by
          cases hpp : m.isPrefixOf (s.drop i) with
          | false => rfl
          | true => exact absurd (pre_take.1 hpp).2 he
        rw [hp] at hk
        have hbeq : ((s.drop i).take m.length == m) = false := by simpa using he
        repeat' (first
          | refine S.nilK ?_
          | (refine S.op rfl ?_; first
            | refine R.indexAddr rfl rfl (by omega) hg ?_
            | refine S.lenS rfl ?_
            | refine S.sliceS rfl rfl rfl (by omega) (by omega) (by omega) ?_
            | refine S.eqSB (r := false) rfl rfl (by rw [hcut]; exact hbeq) ?_
            | refine R.mv rfl ?_
            | refine R.fieldAddr rfl ?_
            | refine R.fieldAddrR rfl ?_
            | refine R.nilCheck rfl ?_
            | refine R.nilCheckR rfl ?_
            | refine R.loadR rfl rfl ?_
            | refine R.load (by decide) rfl (by (repeat' (first | assumption | exact AHeap.set_same _ _ _ | refine AHeap.get_fresh (by assumption) ?_ | refine AHeap.so ?_ ?_ | exact AHeap.n1 (by assumption) | exact AHeap.n2 (by assumption) | exact AHeap.ne_of (by assumption) (by assumption) | exact AHeap.n4 (by assumption) (by assumption) | exact AHeap.n5 (by assumption) | exact AHeap.n6 (by assumption) | exact AHeap.n7 (by assumption) (by assumption) | exact AHeap.n8 (by assumption) (by assumption))); first | done | fail) rfl ?_
            | refine S.addI rfl rfl (by omega) ?_
            | refine S.subI rfl rfl (by omega) ?_
            | refine S.addU rfl rfl ?_
            | refine S.subU rfl rfl ?_
            | refine S.addUc rfl (by decide) ?_
            | refine S.subUc rfl (by decide) ?_
            | refine S.arith rfl rfl rfl ?_
            | refine R.pickT rfl rfl ?_
            | refine R.pickF rfl rfl ?_
            | refine R.len rfl ?_
            | refine R.lenA rfl ?_
            | refine R.lenStr rfl ?_
            | refine S.convIU rfl (by omega) ?_
            | refine S.convUI rfl (by omega) ?_
            | refine R.convInt rfl ?_
            | refine R.not rfl ?_
            | refine R.eqPtrNil rfl rfl ?_
            | refine R.extract rfl rfl ?_
            | refine R.field rfl rfl ?_
            | refine R.alloc rfl (fun b hb => ?_)
            | refine R.box rfl rfl rfl (fun b hb => ?_)
            | refine R.build rfl rfl ?_
            | refine R.buildSl rfl rfl rfl (by decide) ?_
            | refine R.toStr rfl ?_
            | refine R.convStr rfl ?_
            | refine R.minmax rfl ?_
            | refine R.makeFunc rfl rfl ?_
            | (first | refine S.lss rfl rfl (fun hlt => ?_) (fun hlt => by exfalso; omega) | refine S.lss rfl rfl (fun hlt => by exfalso; omega) (fun hlt => ?_) | refine S.lss rfl rfl (fun hlt => ?_) (fun hlt => ?_))
            | (first | refine S.gtr rfl rfl (fun hlt => ?_) (fun hlt => by exfalso; omega) | refine S.gtr rfl rfl (fun hlt => by exfalso; omega) (fun hlt => ?_) | refine S.gtr rfl rfl (fun hlt => ?_) (fun hlt => ?_))
            | (first | refine S.leq rfl rfl (fun hlt => ?_) (fun hlt => by exfalso; omega) | refine S.leq rfl rfl (fun hlt => by exfalso; omega) (fun hlt => ?_) | refine S.leq rfl rfl (fun hlt => ?_) (fun hlt => ?_))
            | (first | refine S.geq rfl rfl (fun hlt => ?_) (fun hlt => by exfalso; omega) | refine S.geq rfl rfl (fun hlt => by exfalso; omega) (fun hlt => ?_) | refine S.geq rfl rfl (fun hlt => ?_) (fun hlt => ?_))
            | (first | refine S.eqInt rfl rfl (fun hlt => ?_) (fun hlt => by exfalso; omega) | refine S.eqInt rfl rfl (fun hlt => by exfalso; omega) (fun hlt => ?_) | refine S.eqInt rfl rfl (fun hlt => ?_) (fun hlt => ?_)))
          | (refine S.op0 rfl ?_; first | refine S.storeS rfl rfl rfl (by rfl) rfl (by first | decide | exact Nat.le_refl _ | exact Nat.le_of_ble_eq_true rfl) ?_ | refine S.store rfl rfl (by (repeat' (first | assumption | exact AHeap.set_same _ _ _ | refine AHeap.get_fresh (by assumption) ?_ | refine AHeap.so ?_ ?_ | exact AHeap.n1 (by assumption) | exact AHeap.n2 (by assumption) | exact AHeap.ne_of (by assumption) (by assumption) | exact AHeap.n4 (by assumption) (by assumption) | exact AHeap.n5 (by assumption) | exact AHeap.n6 (by assumption) | exact AHeap.n7 (by assumption) (by assumption) | exact AHeap.n8 (by assumption) (by assumption))); first | done | fail) rfl rfl rfl (by rfl) rfl ?_)
          | refine S.skip rfl ?_
          | refine S.skip0 rfl ?_
          | refine S.seq ?_
          | refine S.region ?_
          | refine S.regionT ?_
          | refine S.tstep ?_
          | refine S.talt ?_ ?_
          | exact S.tstop
          | refine S.tdone ?_
          | refine S.condT rfl ?_
          | refine S.condF rfl ?_
          | refine RRun.skip ?_
          | refine RRun.block ?_
          | refine RRun.inBlock ?_
          | refine RRun.exit rfl ?_)
        rw [show ((j : Int) + 1) = ((j + 1 : Nat) : Int) by omega]
        exact S.keep [154, 153, 152, 0, 1, 4, 7] rfl (hi' hk)
    · have hp : m.isPrefixOf (s.drop i) = false := by
        cases hpp : m.isPrefixOf (s.drop i) with
        | false => rfl
        | true => have := (pre_take.1 hpp).1; simp at this; omega
      rw [hp] at hk
      repeat' (first
        | refine S.nilK ?_
        | (refine S.op rfl ?_; first
          | refine R.indexAddr rfl rfl (by omega) hg ?_
          | refine S.lenS rfl ?_
          | refine R.mv rfl ?_
          | refine R.fieldAddr rfl ?_
          | refine R.fieldAddrR rfl ?_
          | refine R.nilCheck rfl ?_
          | refine R.nilCheckR rfl ?_
          | refine R.loadR rfl rfl ?_
          | refine R.load (by decide) rfl (by (repeat' (first | assumption | exact AHeap.set_same _ _ _ | refine AHeap.get_fresh (by assumption) ?_ | refine AHeap.so ?_ ?_ | exact AHeap.n1 (by assumption) | exact AHeap.n2 (by assumption) | exact AHeap.ne_of (by assumption) (by assumption) | exact AHeap.n4 (by assumption) (by assumption) | exact AHeap.n5 (by assumption) | exact AHeap.n6 (by assumption) | exact AHeap.n7 (by assumption) (by assumption) | exact AHeap.n8 (by assumption) (by assumption))); first | done | fail) rfl ?_
          | refine S.addI rfl rfl (by omega) ?_
          | refine S.subI rfl rfl (by omega) ?_
          | refine S.addU rfl rfl ?_
          | refine S.subU rfl rfl ?_
          | refine S.addUc rfl (by decide) ?_
          | refine S.subUc rfl (by decide) ?_
          | refine S.arith rfl rfl rfl ?_
          | refine R.pickT rfl rfl ?_
          | refine R.pickF rfl rfl ?_
          | refine R.len rfl ?_
          | refine R.lenA rfl ?_
          | refine R.lenStr rfl ?_
          | refine S.convIU rfl (by omega) ?_
          | refine S.convUI rfl (by omega) ?_
          | refine R.convInt rfl ?_
          | refine R.not rfl ?_
          | refine R.eqPtrNil rfl rfl ?_
          | refine R.extract rfl rfl ?_
          | refine R.field rfl rfl ?_
          | refine R.alloc rfl (fun b hb => ?_)
          | refine R.box rfl rfl rfl (fun b hb => ?_)
          | refine R.build rfl rfl ?_
          | refine R.buildSl rfl rfl rfl (by decide) ?_
          | refine R.toStr rfl ?_
          | refine R.convStr rfl ?_
          | refine R.minmax rfl ?_
          | refine R.makeFunc rfl rfl ?_
          | (first | refine S.lss rfl rfl (fun hlt => ?_) (fun hlt => by exfalso; omega) | refine S.lss rfl rfl (fun hlt => by exfalso; omega) (fun hlt => ?_) | refine S.lss rfl rfl (fun hlt => ?_) (fun hlt => ?_))
          | (first | refine S.gtr rfl rfl (fun hlt => ?_) (fun hlt => by exfalso; omega) | refine S.gtr rfl rfl (fun hlt => by exfalso; omega) (fun hlt => ?_) | refine S.gtr rfl rfl (fun hlt => ?_) (fun hlt => ?_))
          | (first | refine S.leq rfl rfl (fun hlt => ?_) (fun hlt => by exfalso; omega) | refine S.leq rfl rfl (fun hlt => by exfalso; omega) (fun hlt => ?_) | refine S.leq rfl rfl (fun hlt => ?_) (fun hlt => ?_))
          | (first | refine S.geq rfl rfl (fun hlt => ?_) (fun hlt => by exfalso; omega) | refine S.geq rfl rfl (fun hlt => by exfalso; omega) (fun hlt => ?_) | refine S.geq rfl rfl (fun hlt => ?_) (fun hlt => ?_))
          | (first | refine S.eqInt rfl rfl (fun hlt => ?_) (fun hlt => by exfalso; omega) | refine S.eqInt rfl rfl (fun hlt => by exfalso; omega) (fun hlt => ?_) | refine S.eqInt rfl rfl (fun hlt => ?_) (fun hlt => ?_)))
        | (refine S.op0 rfl ?_; first | refine S.storeS rfl rfl rfl (by rfl) rfl (by first | decide | exact Nat.le_refl _ | exact Nat.le_of_ble_eq_true rfl) ?_ | refine S.store rfl rfl (by (repeat' (first | assumption | exact AHeap.set_same _ _ _ | refine AHeap.get_fresh (by assumption) ?_ | refine AHeap.so ?_ ?_ | exact AHeap.n1 (by assumption) | exact AHeap.n2 (by assumption) | exact AHeap.ne_of (by assumption) (by assumption) | exact AHeap.n4 (by assumption) (by assumption) | exact AHeap.n5 (by assumption) | exact AHeap.n6 (by assumption) | exact AHeap.n7 (by assumption) (by assumption) | exact AHeap.n8 (by assumption) (by assumption))); first | done | fail) rfl rfl rfl (by rfl) rfl ?_)
        | refine S.skip rfl ?_
        | refine S.skip0 rfl ?_
        | refine S.seq ?_
        | refine S.region ?_
        | refine S.regionT ?_
        | refine S.tstep ?_
        | refine S.talt ?_ ?_
        | exact S.tstop
        | refine S.tdone ?_
        | refine S.condT rfl ?_
        | refine S.condF rfl ?_
        | refine RRun.skip ?_
        | refine RRun.block ?_
        | refine RRun.inBlock ?_
        | refine RRun.exit rfl ?_)
      rw [show ((j : Int) + 1) = ((j + 1 : Nat) : Int) by omega]
      exact S.keep [154, 153, 152, 0, 1, 4, 7] rfl (hi' hk)

end Go.Proofs.Ytcjcmegkfplnkaa
