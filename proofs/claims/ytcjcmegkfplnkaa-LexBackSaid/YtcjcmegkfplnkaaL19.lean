import Derived.Test.YtcjcmegkfplnkaaL15
set_option linter.unusedVariables false
set_option linter.unusedSimpArgs false
namespace Go.Proofs.Ytcjcmegkfplnkaa
open Go.Av

/-! ### Rows of bytes that a call owns -/

/-- A slice of bytes over a row that is owned, or nil. -/
def RowAt (h₀ : AHeap) (bs : List UInt8) (v : AV) (h : AHeap) : Prop :=
  (bs = [] ∧ v = .v (.slice none 0 0) ∧ h = h₀) ∨ ∃ b cap sp, h₀ b = none ∧ v = slAt b 0 bs.length cap ∧ h = h₀.set b (.box (bs.map u8 ++ sp)) ∧ bs.length + sp.length = cap ∧ cap ≤ maxLen ∧ bs ≠ []

theorem one_byte1 (b : UInt8) : ∀ e ∈ [[u8 b]], ∀ a ∈ e, a.one = true := by
  intro e he a ha
  simp only [List.mem_singleton] at he
  subst he
  simp only [List.mem_singleton] at ha
  subst ha; rfl

theorem over_app (A S X : List AV) (n : Nat) (hn : n = A.length) : over (A ++ S) n X = A ++ X ++ S.drop X.length := by
  subst hn
  unfold over
  rw [List.take_left, List.drop_append, List.drop_of_length_le (by omega), List.nil_append, show A.length + X.length - A.length = X.length by omega]

/-- One byte more. -/
theorem S.pushByte {P : Program} {c : Cls} {E : AEnv} {h₀ h : AHeap} {K : AV → AHeap → Prop} {zero : List Value} {x y : Operand} {v y' : AV} {bs : List UInt8} {b : UInt8} (hc : c = .act) (hr : RowAt h₀ bs v h) (hx : aev E x = some v) (hy : aev E y = some y') (hs : Go.Av.Src 1 y' [[u8 b]]) (hl : bs.length ≤ 1000000)
    (hk : ∀ v' h', RowAt h₀ (bs ++ [b]) v' h' → K v' h') : ROpS P c (.append 1 1 zero x y) E h K := by
  rcases hr with ⟨rfl, rfl, rfl⟩ | ⟨p, cap, sp, h1, rfl, rfl, h2, h3, h4⟩
  · refine R.appendBox hc hx .nil hy hs (one_byte1 b) (by simp) (by simp) (by simp) (fun p cap hp hc1 hc2 => hk _ _ (.inr ⟨p, cap, List.replicate ((cap - 1) * 1) .any, hp, rfl, rfl, ?_, hc2, by simp⟩))
    simp at hc1 ⊢; omega
  · refine ROpS.weak hc ?_
    refine R.appendOwn hc hx (AHeap.set_same _ _ _) (by simp; omega) (by omega) hy hs (one_byte1 b) (by simp) (by simp; omega) (by simp; omega) (fun hroom => ?_) (fun p' cap' hp' hc1 hc2 => ?_)
    · refine ⟨_, _, .refl _, .refl _, hk _ _ (.inr ⟨p, cap, sp.drop 1, h1, ?_, ?_, ?_, h3, by simp⟩)⟩
      · simp
      · rw [over_app _ _ _ _ (by simp), AHeap.set_set]; simp
      · simp at hroom ⊢; omega
    · have hp0 := AHeap.fresh_set hp'
      refine ⟨_, _, .refl _, ((AHeap.le.refl h₀).set _ h1).both p' _, hk _ _ (.inr ⟨p', cap', List.replicate ((cap' - (bs.length + 1)) * 1) .any, hp0.2, ?_, ?_, ?_, hc2, by simp⟩)⟩
      · simp
      · simp
      · simp at hc1 ⊢; omega

/-- An owned row is given up: what was a place is now a slice that does not change. -/
theorem RRun.freezeT {P : Program} {ro : Option Nat} {n : Nat} {l : List (Nat × AV)} {h : AHeap} {Q : Option Code → AEnv → AHeap → Prop} {k : List RT} {t br cap len : Nat} {bs : List UInt8} {sp : List AV} (hlen0 : len = bs.length) (hl : Env.get l t = some (slAt br 0 len cap))
    (hrow : h br = some (.box (bs.map u8 ++ sp))) (hc : bs.length ≤ cap) (hmax : cap ≤ maxLen) (H : RRunG P ro n k (Env.get ((t, .sl 1 (Go.Av.byteCells bs) .ro) :: l)) (h.del br) Q) : RRunG P ro n k (Env.get l) h Q := by
  subst hlen0
  intro todo ht ds a w hs b cs hb
  have hr := hs.rel
  have r1 := hr.del br
  have e1 := Evol.del h w br
  obtain ⟨y, hy, cc, tt, rfl, hvr⟩ := hr br _ hrow
  have hvr' := hvr.mono e1.stab
  have hfl : VRels (stab (h.del br) w) (Go.Av.byteCells bs).flatten (cc.toList.take bs.length) := by
    have := hvr'.take bs.length
    rw [List.take_append_of_le_length (by simp), List.take_of_length_le (by simp)] at this
    rw [byteCells_flatten]; exact this
  have hold : holdsAt (stab (h.del br) w) br 0 (cc.toList.take bs.length) := fun j v hj => by
    rw [List.getElem?_take] at hj
    split at hj
    · simp only [stab, AHeap.del_same]
      rw [cell_of_cells hy, Nat.zero_add]
      simpa using hj
    · cases hj
  have hlen : (Go.Av.byteCells bs).length = bs.length := by simp [Go.Av.byteCells]
  have hnew : VRel (stab (h.del br) w) (.sl 1 (Go.Av.byteCells bs) .ro) (.slice (some ⟨br, 0, none⟩) bs.length cap) := by
    have := VRel.sl (st := stab (h.del br) w) 1 (Go.Av.byteCells bs) .ro br 0 cap _ hfl hold (byteCells_sz _) (by rw [hlen]; exact hc) hmax trivial
    rwa [hlen] at this
  have hs' : St n ds (Env.get ((t, .sl 1 (Go.Av.byteCells bs) .ro) :: l)) (h.del br) a w := ⟨hs.defers, hs.size, fun t' x hx => by
    by_cases he : t' = t
    · subst he
      obtain ⟨u, h1, h2⟩ := hs.env t' _ hl
      have hu := h2.inv_v
      subst hu
      have : x = .sl 1 (Go.Av.byteCells bs) .ro := by simpa [Env.get] using hx.symm
      subst this
      exact ⟨_, h1, hnew⟩
    · have hx' : Env.get l t' = some x := by
        simp only [Env.get] at hx
        have : Nat.beq t' t = false := by cases hb : Nat.beq t' t with | false => rfl | true => exact absurd (Nat.eq_of_beq_eq_true hb) he
        rwa [this] at hx
      obtain ⟨u, h1, h2⟩ := hs.env t' x hx'
      exact ⟨u, h1, h2.mono e1.stab⟩, r1⟩
  obtain ⟨a', w', t', j, E'', h'', ms, s, q1, q2, q3, q4, q5⟩ := H todo ht ds a w hs' b cs hb
  exact ⟨a', w', t', j, E'', h'', ms, s, q1, q2, q3, e1.trans q4, q5⟩

/-! ### slices.Reverse -/

def r28l0 : RCode :=
  (.seq (.seq (.region [
    ⟨(some 7), none, .act, .mv (.tmp 2)⟩,
    ⟨(some 8), none, .act, .mv (.tmp 3)⟩,
    ⟨(some 9), none, .act, .bin .lss (.tmp 7) (.tmp 8)⟩])
  (.cond (.tmp 9)
   .skip
   (.exit 0)))
  (.seq (.block 1
   (.region [
     ⟨(some 14), none, .pure, .mv (.tmp 0)⟩,
     ⟨(some 15), none, .pure, .mv (.tmp 2)⟩,
     ⟨(some 16), none, .pure, .mv (.tmp 0)⟩,
     ⟨(some 17), none, .pure, .mv (.tmp 3)⟩,
     ⟨(some 18), none, .pure, .mv (.tmp 0)⟩,
     ⟨(some 19), none, .pure, .mv (.tmp 3)⟩,
     ⟨(some 20), none, .pure, .indexAddr 1 (.tmp 18) (.tmp 19)⟩,
     ⟨(some 21), none, .read, .load false 1 (.tmp 20)⟩,
     ⟨(some 22), none, .pure, .mv (.tmp 0)⟩,
     ⟨(some 23), none, .pure, .mv (.tmp 2)⟩,
     ⟨(some 24), none, .pure, .indexAddr 1 (.tmp 22) (.tmp 23)⟩,
     ⟨(some 25), none, .read, .load false 1 (.tmp 24)⟩,
     ⟨(some 26), none, .pure, .indexAddr 1 (.tmp 14) (.tmp 15)⟩,
     ⟨none, none, .act, .store 1 (.tmp 26) (.tmp 21)⟩,
     ⟨(some 27), none, .pure, .indexAddr 1 (.tmp 16) (.tmp 17)⟩,
     ⟨none, none, .act, .store 1 (.tmp 27) (.tmp 25)⟩]))
  (.region [
    ⟨(some 10), none, .act, .mv (.tmp 2)⟩,
    ⟨(some 11), none, .act, .bin .add (.tmp 10) (.const (.int .i64 1))⟩,
    ⟨(some 12), none, .act, .mv (.tmp 3)⟩,
    ⟨(some 13), none, .act, .bin .sub (.tmp 12) (.const (.int .i64 1))⟩,
    ⟨(some 2), none, .act, .mv (.tmp 11)⟩,
    ⟨(some 3), none, .act, .mv (.tmp 13)⟩])))
/-- slices.Reverse[[]byte,byte] -/
def r28 : RCode :=
  (.seq (.region [
    ⟨(some 4), none, .act, .mv (.tmp 0)⟩,
    ⟨(some 5), none, .act, .len (.tmp 4)⟩,
    ⟨(some 6), none, .act, .bin .sub (.tmp 5) (.const (.int .i64 1))⟩,
    ⟨(some 2), none, .act, .mv (.const (.int .i64 0))⟩,
    ⟨(some 3), none, .act, .mv (.tmp 6)⟩])
  (.block 0
   (.loop r28l0)))
theorem res28 : ∃ c, Try.f28.body = some c ∧ resCode Try.prog 28 c = some r28 := ⟨_, rfl, by kernel_rfl⟩
theorem rr28 : resRes Try.prog Try.f28.results.toList = some [] := by kernel_rfl

def revd (bs : List UInt8) (i : Nat) : List UInt8 := (List.range bs.length).map fun k => if k < i ∨ bs.length ≤ k + i then bs.getD (bs.length - 1 - k) 0 else bs.getD k 0

theorem revd_zero (bs : List UInt8) : revd bs 0 = bs := by
  apply List.ext_getElem?
  intro k
  simp only [revd, List.getElem?_map]
  by_cases hk : k < bs.length
  · have : ¬ (k < 0 ∨ bs.length ≤ k + 0) := by omega
    simp [List.getElem?_range hk, this, hk, List.getD]
    intro h; omega
  · simp [hk]

theorem revd_done (bs : List UInt8) (i : Nat) (hi : bs.length ≤ 2 * i + 1) : revd bs i = bs.reverse := by
  apply List.ext_getElem?
  intro k
  simp only [revd, List.getElem?_map]
  by_cases hk : k < bs.length
  · rw [List.getElem?_range hk, List.getElem?_reverse hk]
    have h2 : bs.length - 1 - k < bs.length := by omega
    by_cases hc : k < i ∨ bs.length ≤ k + i
    · simp [hc, List.getD, h2]
    · have : bs.length - 1 - k = k := by omega
      simp [hc, List.getD, this, hk]
  · have h3 : bs.reverse.length ≤ k := by simp; omega
    simp [hk, List.getElem?_eq_none h3]

theorem revd_len (bs : List UInt8) (i : Nat) : (revd bs i).length = bs.length := by simp [revd]

theorem revd_get {bs : List UInt8} {i k : Nat} (hk : k < bs.length) : (revd bs i)[k]? = some (if k < i ∨ bs.length ≤ k + i then bs.getD (bs.length - 1 - k) 0 else bs.getD k 0) := by
  simp only [revd, List.getElem?_map, List.getElem?_range hk, Option.map_some]

theorem revd_step (bs : List UInt8) (i : Nat) (hi : 2 * i + 1 < bs.length) : ((revd bs i).set i (bs.getD (bs.length - 1 - i) 0)).set (bs.length - 1 - i) (bs.getD i 0) = revd bs (i + 1) := by
  apply List.ext_getElem?
  intro k
  by_cases hk : k < bs.length
  · rw [revd_get hk, List.getElem?_set, List.getElem?_set]
    by_cases h1 : bs.length - 1 - i = k
    · have h2 : bs.length ≤ k + (i + 1) := by omega
      have h3 : bs.length - 1 - k = i := by omega
      simp [h1, h2, h3, revd_len, hk]
    · by_cases h2 : i = k
      · subst h2
        have h3 : i < i + 1 := by omega
        simp [h1, revd_len, hk]
      · rw [if_neg h1, if_neg h2, revd_get hk]
        have : (k < i ∨ bs.length ≤ k + i) ↔ (k < i + 1 ∨ bs.length ≤ k + (i + 1)) := by omega
        simp only [this]
  · rw [List.getElem?_eq_none (by simp [revd_len]; omega), List.getElem?_eq_none (by simp [revd_len]; omega)]

theorem over_one (A S : List AV) (x : AV) (n : Nat) (hn : n < A.length) : over (A ++ S) n [x] = A.set n x ++ S := by
  unfold over
  rw [List.take_append_of_le_length (by omega), List.drop_append_of_le_length (by simp; omega), ← List.append_assoc]
  congr 1
  rw [List.set_eq_take_append_cons_drop, if_pos hn]
  simp

theorem load_u8 {A S : List AV} {n : Nat} {b : UInt8} (h : A[n]? = some (u8 b)) : loadAV false 1 ((A ++ S).drop n) = some (u8 b) := by
  have hn : n < A.length := (List.getElem?_eq_some_iff.1 h).1
  rw [List.drop_append_of_le_length (by omega), List.drop_eq_getElem_cons hn]
  have : A[n] = u8 b := by rw [List.getElem?_eq_getElem hn] at h; exact Option.some.inj h
  rw [this]; rfl

theorem S.storeByte {P : Program} {c : Cls} {E : AEnv} {h : AHeap} {K : AV → AHeap → Prop} {x y : Operand} {b off n : Nat} {A S : List AV} {v : UInt8} (hc : c = .act) (hx : aev E x = some (ptrAt b off)) (ho : off = n) (hb : h b = some (.box (A ++ S))) (hy : aev E y = some (u8 v)) (hn : n < A.length)
    (hk : K (.v undef) (h.set b (.box (A.set n (u8 v) ++ S)))) : ROpS P c (.store 1 x y) E h K := by
  subst ho
  exact R.store hc hx hb hy rfl rfl (by simp; omega) (by rw [over_one _ _ _ _ hn]; exact hk)

theorem S.loadByte {P : Program} {c : Cls} {E : AEnv} {h : AHeap} {K : AV → AHeap → Prop} {x : Operand} {b off n : Nat} {l : List UInt8} {S : List AV} {v : UInt8} (hc : c ≠ .pure) (hx : aev E x = some (ptrAt b off)) (ho : off = n) (hb : h b = some (.box (l.map u8 ++ S))) (hv : l[n]? = some v)
    (hk : K (u8 v) h) : ROpS P c (.load false 1 x) E h K := by
  subst ho
  exact R.load hc hx hb (load_u8 (by rw [List.getElem?_map, hv]; rfl)) hk

theorem getD_get {bs : List UInt8} {k : Nat} (hk : k < bs.length) : bs[k]? = some (bs.getD k 0) := by
  simp [List.getD, hk]

theorem rev_loop (bs : List UInt8) (hl : bs.length ≤ 1000000) (b cap : Nat) (sp : List AV) (hcap : bs.length ≤ cap) (k : List RT) (Q : AV → AHeap → Prop) : ∀ (m i j : Nat) (h : AHeap), j ≤ m → i + j + 1 = bs.length → h b = some (.box ((revd bs i).map u8 ++ sp)) →
    RRun Try.prog Try.f28 28 k (Env.get []) (h.set b (.box (bs.reverse.map u8 ++ sp))) Q →
    RRun Try.prog Try.f28 28 (.inLoop r28l0 :: .inBlock 0 :: k) (Env.get [(2, i64 i), (3, i64 j), (0, slAt b 0 bs.length cap)]) h Q := by
  have stop : ∀ (i j : Nat) (h : AHeap), ¬ i < j → i + j + 1 = bs.length → h b = some (.box ((revd bs i).map u8 ++ sp)) →
    RRun Try.prog Try.f28 28 k (Env.get []) (h.set b (.box (bs.reverse.map u8 ++ sp))) Q →
    RRun Try.prog Try.f28 28 (.inLoop r28l0 :: .inBlock 0 :: k) (Env.get [(2, i64 i), (3, i64 j), (0, slAt b 0 bs.length cap)]) h Q := by
    intro i j h hlt hij hb hk
    refine RRun.inLoop ?_
    repeat' (first | refine S.nilK ?_ | (refine S.op rfl ?_; first | refine R.mv rfl ?_ | refine R.fieldAddr rfl ?_ | refine R.fieldAddrR rfl ?_ | refine R.nilCheck rfl ?_ | refine R.nilCheckR rfl ?_ | refine R.loadR rfl rfl ?_ | refine R.load (by decide) rfl (by (repeat' (first | assumption | exact AHeap.set_same _ _ _ | refine AHeap.get_fresh (by assumption) ?_ | refine AHeap.so ?_ ?_ | exact AHeap.n1 (by assumption) | exact AHeap.n2 (by assumption) | exact AHeap.ne_of (by assumption) (by assumption) | exact AHeap.n4 (by assumption) (by assumption) | exact AHeap.n5 (by assumption) | exact AHeap.n6 (by assumption) | exact AHeap.n7 (by assumption) (by assumption) | exact AHeap.n8 (by assumption) (by assumption))); first | done | fail) rfl ?_ | refine S.addI rfl rfl (by omega) ?_ | refine S.subI rfl rfl (by omega) ?_ | refine S.addU rfl rfl ?_ | refine S.subU rfl rfl ?_ | refine S.addUc rfl (by decide) ?_ | refine S.subUc rfl (by decide) ?_ | refine S.arith rfl rfl rfl ?_ | refine R.pickT rfl rfl ?_ | refine R.pickF rfl rfl ?_ | refine R.len rfl ?_ | refine R.lenA rfl ?_ | refine R.lenStr rfl ?_ | refine S.convIU rfl (by omega) ?_ | refine S.convUI rfl (by omega) ?_ | refine R.convInt rfl ?_ | refine R.not rfl ?_ | refine R.eqPtrNil rfl rfl ?_ | refine R.extract rfl rfl ?_ | refine R.field rfl rfl ?_ | refine R.alloc rfl (fun b hb => ?_) | refine R.box rfl rfl rfl (fun b hb => ?_) | refine R.build rfl rfl ?_ | refine R.buildSl rfl rfl rfl (by decide) ?_ | refine R.toStr rfl ?_ | refine R.convStr rfl ?_ | refine R.minmax rfl ?_ | refine R.makeFunc rfl rfl ?_ | (first | refine S.lss rfl rfl (fun hlt => ?_) (fun hlt => by exfalso; omega) | refine S.lss rfl rfl (fun hlt => by exfalso; omega) (fun hlt => ?_) | refine S.lss rfl rfl (fun hlt => ?_) (fun hlt => ?_)) | (first | refine S.gtr rfl rfl (fun hlt => ?_) (fun hlt => by exfalso; omega) | refine S.gtr rfl rfl (fun hlt => by exfalso; omega) (fun hlt => ?_) | refine S.gtr rfl rfl (fun hlt => ?_) (fun hlt => ?_)) | (first | refine S.leq rfl rfl (fun hlt => ?_) (fun hlt => by exfalso; omega) | refine S.leq rfl rfl (fun hlt => by exfalso; omega) (fun hlt => ?_) | refine S.leq rfl rfl (fun hlt => ?_) (fun hlt => ?_)) | (first | refine S.geq rfl rfl (fun hlt => ?_) (fun hlt => by exfalso; omega) | refine S.geq rfl rfl (fun hlt => by exfalso; omega) (fun hlt => ?_) | refine S.geq rfl rfl (fun hlt => ?_) (fun hlt => ?_)) | (first | refine S.eqInt rfl rfl (fun hlt => ?_) (fun hlt => by exfalso; omega) | refine S.eqInt rfl rfl (fun hlt => by exfalso; omega) (fun hlt => ?_) | refine S.eqInt rfl rfl (fun hlt => ?_) (fun hlt => ?_))) | (refine S.op0 rfl ?_; first | refine S.storeS rfl rfl rfl (by rfl) rfl (by first | decide | exact Nat.le_refl _ | exact Nat.le_of_ble_eq_true rfl) ?_ | refine S.store rfl rfl (by (repeat' (first | assumption | exact AHeap.set_same _ _ _ | refine AHeap.get_fresh (by assumption) ?_ | refine AHeap.so ?_ ?_ | exact AHeap.n1 (by assumption) | exact AHeap.n2 (by assumption) | exact AHeap.ne_of (by assumption) (by assumption) | exact AHeap.n4 (by assumption) (by assumption) | exact AHeap.n5 (by assumption) | exact AHeap.n6 (by assumption) | exact AHeap.n7 (by assumption) (by assumption) | exact AHeap.n8 (by assumption) (by assumption))); first | done | fail) rfl rfl rfl (by rfl) rfl ?_) | refine S.skip rfl ?_ | refine S.skip0 rfl ?_ | refine S.seq ?_ | refine S.region ?_ | refine S.regionT ?_ | refine S.tstep ?_ | refine S.talt ?_ ?_ | exact S.tstop | refine S.tdone ?_ | refine S.condT rfl ?_ | refine S.condF rfl ?_ | refine RRun.skip ?_ | refine RRun.block ?_ | refine RRun.inBlock ?_ | refine RRun.exit rfl ?_)
    have he : h.set b (.box (bs.reverse.map u8 ++ sp)) = h := by
      rw [← revd_done bs i (by omega)]; exact AHeap.set_eq h hb
    rw [he] at hk
    exact S.keep [] rfl hk
  intro m
  induction m with
  | zero =>
    intro i j h hj hij hb hk
    exact stop i j h (by omega) hij hb hk
  | succ m ih =>
    intro i j h hj hij hb hk
    by_cases hlt : i < j
    · have hi : i < bs.length := by omega
      have hjl : j < bs.length := by omega
      have gj : (revd bs i)[j]? = some (bs.getD j 0) := by rw [revd_get hjl, if_neg (by omega)]
      have gi : (revd bs i)[i]? = some (bs.getD i 0) := by rw [revd_get hi, if_neg (by omega)]
      have hstep := revd_step bs i (by omega)
      rw [show bs.length - 1 - i = j by omega] at hstep
      generalize bs.getD j 0 = x at gj hstep
      generalize bs.getD i 0 = y at gi hstep
      have hrl := revd_len bs i
      refine RRun.inLoop ?_
      repeat' (first | (refine S.op0 rfl (S.storeByte (n := i) (v := x) rfl rfl (by omega) hb rfl (by simp; omega) ?_)) | (refine S.op0 rfl (S.storeByte (n := j) (v := y) rfl rfl (by omega) (AHeap.set_same _ _ _) rfl (by simp; omega) ?_)) | refine S.nilK ?_ | (refine S.op rfl ?_; first | refine R.indexAddrV rfl rfl (by omega) (by omega) ?_ | refine S.loadByte (n := j) (by decide) rfl (by omega) hb gj ?_ | refine S.loadByte (n := i) (by decide) rfl (by omega) hb gi ?_ | refine R.mv rfl ?_ | refine R.fieldAddr rfl ?_ | refine R.fieldAddrR rfl ?_ | refine R.nilCheck rfl ?_ | refine R.nilCheckR rfl ?_ | refine R.loadR rfl rfl ?_ | refine R.load (by decide) rfl (by (repeat' (first | assumption | exact AHeap.set_same _ _ _ | refine AHeap.get_fresh (by assumption) ?_ | refine AHeap.so ?_ ?_ | exact AHeap.n1 (by assumption) | exact AHeap.n2 (by assumption) | exact AHeap.ne_of (by assumption) (by assumption) | exact AHeap.n4 (by assumption) (by assumption) | exact AHeap.n5 (by assumption) | exact AHeap.n6 (by assumption) | exact AHeap.n7 (by assumption) (by assumption) | exact AHeap.n8 (by assumption) (by assumption))); first | done | fail) rfl ?_ | refine S.addI rfl rfl (by omega) ?_ | refine S.subI rfl rfl (by omega) ?_ | refine S.addU rfl rfl ?_ | refine S.subU rfl rfl ?_ | refine S.addUc rfl (by decide) ?_ | refine S.subUc rfl (by decide) ?_ | refine S.arith rfl rfl rfl ?_ | refine R.pickT rfl rfl ?_ | refine R.pickF rfl rfl ?_ | refine R.len rfl ?_ | refine R.lenA rfl ?_ | refine R.lenStr rfl ?_ | refine S.convIU rfl (by omega) ?_ | refine S.convUI rfl (by omega) ?_ | refine R.convInt rfl ?_ | refine R.not rfl ?_ | refine R.eqPtrNil rfl rfl ?_ | refine R.extract rfl rfl ?_ | refine R.field rfl rfl ?_ | refine R.alloc rfl (fun b hb => ?_) | refine R.box rfl rfl rfl (fun b hb => ?_) | refine R.build rfl rfl ?_ | refine R.buildSl rfl rfl rfl (by decide) ?_ | refine R.toStr rfl ?_ | refine R.convStr rfl ?_ | refine R.minmax rfl ?_ | refine R.makeFunc rfl rfl ?_ | (first | refine S.lss rfl rfl (fun hlt => ?_) (fun hlt => by exfalso; omega) | refine S.lss rfl rfl (fun hlt => by exfalso; omega) (fun hlt => ?_) | refine S.lss rfl rfl (fun hlt => ?_) (fun hlt => ?_)) | (first | refine S.gtr rfl rfl (fun hlt => ?_) (fun hlt => by exfalso; omega) | refine S.gtr rfl rfl (fun hlt => by exfalso; omega) (fun hlt => ?_) | refine S.gtr rfl rfl (fun hlt => ?_) (fun hlt => ?_)) | (first | refine S.leq rfl rfl (fun hlt => ?_) (fun hlt => by exfalso; omega) | refine S.leq rfl rfl (fun hlt => by exfalso; omega) (fun hlt => ?_) | refine S.leq rfl rfl (fun hlt => ?_) (fun hlt => ?_)) | (first | refine S.geq rfl rfl (fun hlt => ?_) (fun hlt => by exfalso; omega) | refine S.geq rfl rfl (fun hlt => by exfalso; omega) (fun hlt => ?_) | refine S.geq rfl rfl (fun hlt => ?_) (fun hlt => ?_)) | (first | refine S.eqInt rfl rfl (fun hlt => ?_) (fun hlt => by exfalso; omega) | refine S.eqInt rfl rfl (fun hlt => by exfalso; omega) (fun hlt => ?_) | refine S.eqInt rfl rfl (fun hlt => ?_) (fun hlt => ?_))) | (refine S.op0 rfl ?_; first | refine S.storeS rfl rfl rfl (by rfl) rfl (by first | decide | exact Nat.le_refl _ | exact Nat.le_of_ble_eq_true rfl) ?_ | refine S.store rfl rfl (by (repeat' (first | assumption | exact AHeap.set_same _ _ _ | refine AHeap.get_fresh (by assumption) ?_ | refine AHeap.so ?_ ?_ | exact AHeap.n1 (by assumption) | exact AHeap.n2 (by assumption) | exact AHeap.ne_of (by assumption) (by assumption) | exact AHeap.n4 (by assumption) (by assumption) | exact AHeap.n5 (by assumption) | exact AHeap.n6 (by assumption) | exact AHeap.n7 (by assumption) (by assumption) | exact AHeap.n8 (by assumption) (by assumption))); first | done | fail) rfl rfl rfl (by rfl) rfl ?_) | refine S.skip rfl ?_ | refine S.skip0 rfl ?_ | refine S.seq ?_ | refine S.region ?_ | refine S.regionT ?_ | refine S.tstep ?_ | refine S.talt ?_ ?_ | exact S.tstop | refine S.tdone ?_ | refine S.condT rfl ?_ | refine S.condF rfl ?_ | refine RRun.skip ?_ | refine RRun.block ?_ | refine RRun.inBlock ?_ | refine RRun.exit rfl ?_)
      rw [show ((i : Int) + 1) = ((i + 1 : Nat) : Int) by omega, show ((j : Int) - 1) = ((j - 1 : Nat) : Int) by omega, AHeap.set_set, ← List.map_set, ← List.map_set, hstep]
      exact S.keep [2, 3, 0] rfl (ih (i + 1) (j - 1) _ (by omega) (by omega) (AHeap.set_same _ _ _) (by rw [AHeap.set_set]; exact hk))
    · exact stop i j h hlt hij hb hk

theorem reverse_spec (bs : List UInt8) (hne : bs ≠ []) (hl : bs.length ≤ 1000000) (b cap : Nat) (sp : List AV) (hcap : bs.length ≤ cap) (h : AHeap) (hb : h b = some (.box (bs.map u8 ++ sp))) :
    ACalls Try.prog 28 [slAt b 0 bs.length cap] h (fun _ h' => h' = h.set b (.box (bs.reverse.map u8 ++ sp))) := by
  obtain ⟨c, hc1, hc2⟩ := res28
  refine ACalls.enter Try.func28 hc1 Try.ntmps28 hc2 (Nat.le_of_ble_eq_true rfl) rfl ?_
  have hpos : 0 < bs.length := List.length_pos_iff.2 hne
  repeat' (first | refine S.nilK ?_ | (refine S.op rfl ?_; first | refine R.mv rfl ?_ | refine R.fieldAddr rfl ?_ | refine R.fieldAddrR rfl ?_ | refine R.nilCheck rfl ?_ | refine R.nilCheckR rfl ?_ | refine R.loadR rfl rfl ?_ | refine R.load (by decide) rfl (by (repeat' (first | assumption | exact AHeap.set_same _ _ _ | refine AHeap.get_fresh (by assumption) ?_ | refine AHeap.so ?_ ?_ | exact AHeap.n1 (by assumption) | exact AHeap.n2 (by assumption) | exact AHeap.ne_of (by assumption) (by assumption) | exact AHeap.n4 (by assumption) (by assumption) | exact AHeap.n5 (by assumption) | exact AHeap.n6 (by assumption) | exact AHeap.n7 (by assumption) (by assumption) | exact AHeap.n8 (by assumption) (by assumption))); first | done | fail) rfl ?_ | refine S.addI rfl rfl (by omega) ?_ | refine S.subI rfl rfl (by omega) ?_ | refine S.addU rfl rfl ?_ | refine S.subU rfl rfl ?_ | refine S.addUc rfl (by decide) ?_ | refine S.subUc rfl (by decide) ?_ | refine S.arith rfl rfl rfl ?_ | refine R.pickT rfl rfl ?_ | refine R.pickF rfl rfl ?_ | refine R.len rfl ?_ | refine R.lenA rfl ?_ | refine R.lenStr rfl ?_ | refine S.convIU rfl (by omega) ?_ | refine S.convUI rfl (by omega) ?_ | refine R.convInt rfl ?_ | refine R.not rfl ?_ | refine R.eqPtrNil rfl rfl ?_ | refine R.extract rfl rfl ?_ | refine R.field rfl rfl ?_ | refine R.alloc rfl (fun b hb => ?_) | refine R.box rfl rfl rfl (fun b hb => ?_) | refine R.build rfl rfl ?_ | refine R.buildSl rfl rfl rfl (by decide) ?_ | refine R.toStr rfl ?_ | refine R.convStr rfl ?_ | refine R.minmax rfl ?_ | refine R.makeFunc rfl rfl ?_ | (first | refine S.lss rfl rfl (fun hlt => ?_) (fun hlt => by exfalso; omega) | refine S.lss rfl rfl (fun hlt => by exfalso; omega) (fun hlt => ?_) | refine S.lss rfl rfl (fun hlt => ?_) (fun hlt => ?_)) | (first | refine S.gtr rfl rfl (fun hlt => ?_) (fun hlt => by exfalso; omega) | refine S.gtr rfl rfl (fun hlt => by exfalso; omega) (fun hlt => ?_) | refine S.gtr rfl rfl (fun hlt => ?_) (fun hlt => ?_)) | (first | refine S.leq rfl rfl (fun hlt => ?_) (fun hlt => by exfalso; omega) | refine S.leq rfl rfl (fun hlt => by exfalso; omega) (fun hlt => ?_) | refine S.leq rfl rfl (fun hlt => ?_) (fun hlt => ?_)) | (first | refine S.geq rfl rfl (fun hlt => ?_) (fun hlt => by exfalso; omega) | refine S.geq rfl rfl (fun hlt => by exfalso; omega) (fun hlt => ?_) | refine S.geq rfl rfl (fun hlt => ?_) (fun hlt => ?_)) | (first | refine S.eqInt rfl rfl (fun hlt => ?_) (fun hlt => by exfalso; omega) | refine S.eqInt rfl rfl (fun hlt => by exfalso; omega) (fun hlt => ?_) | refine S.eqInt rfl rfl (fun hlt => ?_) (fun hlt => ?_))) | (refine S.op0 rfl ?_; first | refine S.storeS rfl rfl rfl (by rfl) rfl (by first | decide | exact Nat.le_refl _ | exact Nat.le_of_ble_eq_true rfl) ?_ | refine S.store rfl rfl (by (repeat' (first | assumption | exact AHeap.set_same _ _ _ | refine AHeap.get_fresh (by assumption) ?_ | refine AHeap.so ?_ ?_ | exact AHeap.n1 (by assumption) | exact AHeap.n2 (by assumption) | exact AHeap.ne_of (by assumption) (by assumption) | exact AHeap.n4 (by assumption) (by assumption) | exact AHeap.n5 (by assumption) | exact AHeap.n6 (by assumption) | exact AHeap.n7 (by assumption) (by assumption) | exact AHeap.n8 (by assumption) (by assumption))); first | done | fail) rfl rfl rfl (by rfl) rfl ?_) | refine S.skip rfl ?_ | refine S.skip0 rfl ?_ | refine S.seq ?_ | refine S.region ?_ | refine S.regionT ?_ | refine S.tstep ?_ | refine S.talt ?_ ?_ | exact S.tstop | refine S.tdone ?_ | refine S.condT rfl ?_ | refine S.condF rfl ?_ | refine RRun.skip ?_ | refine RRun.block ?_ | refine RRun.inBlock ?_ | refine RRun.exit rfl ?_)
  rw [show ((bs.length : Int) - 1) = ((bs.length - 1 : Nat) : Int) by omega]
  refine RRun.loopIn (S.keep [2, 3, 0] rfl (rev_loop bs hl b cap sp hcap _ _ (bs.length - 1) 0 (bs.length - 1) h (Nat.le_refl _) (by omega) (by rw [revd_zero]; exact hb) ?_))
  repeat' (first | refine S.nilK ?_ | (refine S.op rfl ?_; first | refine R.mv rfl ?_ | refine R.fieldAddr rfl ?_ | refine R.fieldAddrR rfl ?_ | refine R.nilCheck rfl ?_ | refine R.nilCheckR rfl ?_ | refine R.loadR rfl rfl ?_ | refine R.load (by decide) rfl (by (repeat' (first | assumption | exact AHeap.set_same _ _ _ | refine AHeap.get_fresh (by assumption) ?_ | refine AHeap.so ?_ ?_ | exact AHeap.n1 (by assumption) | exact AHeap.n2 (by assumption) | exact AHeap.ne_of (by assumption) (by assumption) | exact AHeap.n4 (by assumption) (by assumption) | exact AHeap.n5 (by assumption) | exact AHeap.n6 (by assumption) | exact AHeap.n7 (by assumption) (by assumption) | exact AHeap.n8 (by assumption) (by assumption))); first | done | fail) rfl ?_ | refine S.addI rfl rfl (by omega) ?_ | refine S.subI rfl rfl (by omega) ?_ | refine S.addU rfl rfl ?_ | refine S.subU rfl rfl ?_ | refine S.addUc rfl (by decide) ?_ | refine S.subUc rfl (by decide) ?_ | refine S.arith rfl rfl rfl ?_ | refine R.pickT rfl rfl ?_ | refine R.pickF rfl rfl ?_ | refine R.len rfl ?_ | refine R.lenA rfl ?_ | refine R.lenStr rfl ?_ | refine S.convIU rfl (by omega) ?_ | refine S.convUI rfl (by omega) ?_ | refine R.convInt rfl ?_ | refine R.not rfl ?_ | refine R.eqPtrNil rfl rfl ?_ | refine R.extract rfl rfl ?_ | refine R.field rfl rfl ?_ | refine R.alloc rfl (fun b hb => ?_) | refine R.box rfl rfl rfl (fun b hb => ?_) | refine R.build rfl rfl ?_ | refine R.buildSl rfl rfl rfl (by decide) ?_ | refine R.toStr rfl ?_ | refine R.convStr rfl ?_ | refine R.minmax rfl ?_ | refine R.makeFunc rfl rfl ?_ | (first | refine S.lss rfl rfl (fun hlt => ?_) (fun hlt => by exfalso; omega) | refine S.lss rfl rfl (fun hlt => by exfalso; omega) (fun hlt => ?_) | refine S.lss rfl rfl (fun hlt => ?_) (fun hlt => ?_)) | (first | refine S.gtr rfl rfl (fun hlt => ?_) (fun hlt => by exfalso; omega) | refine S.gtr rfl rfl (fun hlt => by exfalso; omega) (fun hlt => ?_) | refine S.gtr rfl rfl (fun hlt => ?_) (fun hlt => ?_)) | (first | refine S.leq rfl rfl (fun hlt => ?_) (fun hlt => by exfalso; omega) | refine S.leq rfl rfl (fun hlt => by exfalso; omega) (fun hlt => ?_) | refine S.leq rfl rfl (fun hlt => ?_) (fun hlt => ?_)) | (first | refine S.geq rfl rfl (fun hlt => ?_) (fun hlt => by exfalso; omega) | refine S.geq rfl rfl (fun hlt => by exfalso; omega) (fun hlt => ?_) | refine S.geq rfl rfl (fun hlt => ?_) (fun hlt => ?_)) | (first | refine S.eqInt rfl rfl (fun hlt => ?_) (fun hlt => by exfalso; omega) | refine S.eqInt rfl rfl (fun hlt => by exfalso; omega) (fun hlt => ?_) | refine S.eqInt rfl rfl (fun hlt => ?_) (fun hlt => ?_))) | (refine S.op0 rfl ?_; first | refine S.storeS rfl rfl rfl (by rfl) rfl (by first | decide | exact Nat.le_refl _ | exact Nat.le_of_ble_eq_true rfl) ?_ | refine S.store rfl rfl (by (repeat' (first | assumption | exact AHeap.set_same _ _ _ | refine AHeap.get_fresh (by assumption) ?_ | refine AHeap.so ?_ ?_ | exact AHeap.n1 (by assumption) | exact AHeap.n2 (by assumption) | exact AHeap.ne_of (by assumption) (by assumption) | exact AHeap.n4 (by assumption) (by assumption) | exact AHeap.n5 (by assumption) | exact AHeap.n6 (by assumption) | exact AHeap.n7 (by assumption) (by assumption) | exact AHeap.n8 (by assumption) (by assumption))); first | done | fail) rfl rfl rfl (by rfl) rfl ?_) | refine S.skip rfl ?_ | refine S.skip0 rfl ?_ | refine S.seq ?_ | refine S.region ?_ | refine S.regionT ?_ | refine S.tstep ?_ | refine S.talt ?_ ?_ | exact S.tstop | refine S.tdone ?_ | refine S.condT rfl ?_ | refine S.condF rfl ?_ | refine RRun.skip ?_ | refine RRun.block ?_ | refine RRun.inBlock ?_ | refine RRun.exit rfl ?_)
  apply S.done rr28
  case hx => repeat (first | exact ResAt.nil | apply ResAt.tmp rfl | apply ResAt.cellA rfl (by (repeat' (first | assumption | exact AHeap.set_same _ _ _ | refine AHeap.get_fresh (by assumption) ?_ | refine AHeap.so ?_ ?_ | exact AHeap.n1 (by assumption) | exact AHeap.n2 (by assumption) | exact AHeap.ne_of (by assumption) (by assumption) | exact AHeap.n4 (by assumption) (by assumption) | exact AHeap.n5 (by assumption) | exact AHeap.n6 (by assumption) | exact AHeap.n7 (by assumption) (by assumption) | exact AHeap.n8 (by assumption) (by assumption))); first | done | fail) (by rfl) | apply ResAt.cell1 rfl (by (repeat' (first | assumption | exact AHeap.set_same _ _ _ | refine AHeap.get_fresh (by assumption) ?_ | refine AHeap.so ?_ ?_ | exact AHeap.n1 (by assumption) | exact AHeap.n2 (by assumption) | exact AHeap.ne_of (by assumption) (by assumption) | exact AHeap.n4 (by assumption) (by assumption) | exact AHeap.n5 (by assumption) | exact AHeap.n6 (by assumption) | exact AHeap.n7 (by assumption) (by assumption) | exact AHeap.n8 (by assumption) (by assumption))); first | done | fail) (by rfl))
  rfl

/-! ### Numbers as text -/

def dec (m : Nat) : List UInt8 := if m < 10 then [UInt8.ofNat (48 + m)] else dec (m / 10) ++ [UInt8.ofNat (48 + m % 10)]
termination_by m

def numB (n : Int) : List UInt8 := (if n < 0 then [45] else []) ++ dec n.natAbs

theorem dec_small {m : Nat} (h : m < 10) : dec m = [UInt8.ofNat (48 + m)] := by rw [dec, if_pos h]
theorem dec_big {m : Nat} (h : ¬ m < 10) : dec m = dec (m / 10) ++ [UInt8.ofNat (48 + m % 10)] := by rw [dec, if_neg h]

theorem dec_len : ∀ (k m : Nat), m < 10 ^ (k + 1) → (dec m).length ≤ k + 1 := by
  intro k
  induction k with
  | zero => intro m h; rw [dec_small (by omega)]; simp
  | succ k ih =>
    intro m h
    by_cases h1 : m < 10
    · rw [dec_small h1]; simp
    · rw [dec_big h1, List.length_append]
      have := ih (m / 10) (by rw [Nat.div_lt_iff_lt_mul (by decide)]; rw [Nat.pow_succ] at h; omega)
      simp; omega

theorem dec_len64 {m : Nat} (h : m ≤ 9223372036854775808) : (dec m).length ≤ 19 := dec_len 18 m (by omega)

theorem u8_digit {d : Nat} (h : d < 10) : (UInt8.ofNat (48 + d)).toNat = 48 + d := by
  simp; omega

end Go.Proofs.Ytcjcmegkfplnkaa
