/-
  ParseBack answers true for every text: an expression that was read is read again of its text, or nests too deep or is too long then. No condition.
-/
import Derived.Test.YtdinnoejipmiiaaP22
import Derived.Test.YtdinnoejipmiiaaP23
set_option linter.unusedVariables false
set_option linter.unusedSimpArgs false
namespace Go.Proofs.Ytdinnoejipmiiaa
open Go.Av
def RowAt (h₀ : AHeap) (bs : List UInt8) (v : AV) (h : AHeap) : Prop :=
  (bs = [] ∧ v = .v (.slice none 0 0) ∧ h = h₀) ∨ ∃ b cap sp, h₀ b = none ∧ v = slAt b 0 bs.length cap ∧ h = h₀.set b (.box (bs.map u8 ++ sp)) ∧ bs.length + sp.length = cap ∧ cap ≤ maxLen ∧ bs ≠ []
theorem one_byte1 (b : UInt8) : ∀ e ∈ [[u8 b]], ∀ a ∈ e, a.one = true := by
  intro e he a ha
  simp only [List.mem_singleton] at he
  subst he
  simp only [List.mem_singleton] at ha
  subst ha; rfl
theorem over_app (A S X : List AV) (n : Nat) (hn : n = A.length) : over (A ++ S) n X = A ++ X ++ S.drop X.length := by
  subst hn
  unfold over
  rw [List.take_left, List.drop_append, List.drop_of_length_le (by omega), List.nil_append, show A.length + X.length - A.length = X.length by omega]
theorem S.pushByte {P : Program} {c : Cls} {E : AEnv} {h₀ h : AHeap} {K : AV → AHeap → Prop} {zero : List Value} {x y : Operand} {v y' : AV} {bs : List UInt8} {b : UInt8} (hc : c = .act) (hr : RowAt h₀ bs v h) (hx : aev E x = some v) (hy : aev E y = some y') (hs : Go.Av.Src 1 y' [[u8 b]]) (hl : bs.length ≤ 1000000)
    (hk : ∀ v' h', RowAt h₀ (bs ++ [b]) v' h' → K v' h') : ROpS P c (.append 1 1 zero x y) E h K := by
  rcases hr with ⟨rfl, rfl, rfl⟩ | ⟨p, cap, sp, h1, rfl, rfl, h2, h3, h4⟩
  · refine R.appendBox hc hx .nil hy hs (one_byte1 b) (by simp) (by simp) (by simp) (fun p cap hp hc1 hc2 => hk _ _ (.inr ⟨p, cap, List.replicate ((cap - 1) * 1) .any, hp, rfl, rfl, ?_, hc2, by simp⟩))
    simp at hc1 ⊢; omega
  · refine ROpS.weak hc ?_
    refine R.appendOwn hc hx (AHeap.set_same _ _ _) (by simp; omega) (by omega) hy hs (one_byte1 b) (by simp) (by simp; omega) (by simp; omega) (fun hroom => ?_) (fun p' cap' hp' hc1 hc2 => ?_)
    · refine ⟨_, _, .refl _, .refl _, hk _ _ (.inr ⟨p, cap, sp.drop 1, h1, ?_, ?_, ?_, h3, by simp⟩)⟩
      · simp
      · rw [over_app _ _ _ _ (by simp), AHeap.set_set]; simp
      · simp at hroom ⊢; omega
    · have hp0 := AHeap.fresh_set hp'
      refine ⟨_, _, .refl _, ((AHeap.le.refl h₀).set _ h1).both p' _, hk _ _ (.inr ⟨p', cap', List.replicate ((cap' - (bs.length + 1)) * 1) .any, hp0.2, ?_, ?_, ?_, hc2, by simp⟩)⟩
      · simp
      · simp
      · simp at hc1 ⊢; omega
theorem RRun.freezeT {P : Program} {ro : Option Nat} {n : Nat} {l : List (Nat × AV)} {h : AHeap} {Q : Option Code → AEnv → AHeap → Prop} {k : List RT} {t br cap len : Nat} {bs : List UInt8} {sp : List AV} (hlen0 : len = bs.length) (hl : Env.get l t = some (slAt br 0 len cap))
    (hrow : h br = some (.box (bs.map u8 ++ sp))) (hc : bs.length ≤ cap) (hmax : cap ≤ maxLen) (H : RRunG P ro n k (Env.get ((t, .sl 1 (Go.Av.byteCells bs) .ro) :: l)) (h.del br) Q) : RRunG P ro n k (Env.get l) h Q := by
  subst hlen0
  intro todo ht ds a w hs b cs hb
  have hr := hs.rel
  have r1 := hr.del br
  have e1 := Evol.del h w br
  obtain ⟨y, hy, cc, tt, rfl, hvr⟩ := hr br _ hrow
  have hvr' := hvr.mono e1.stab
  have hfl : VRels (stab (h.del br) w) (Go.Av.byteCells bs).flatten (cc.toList.take bs.length) := by
    have := hvr'.take bs.length
    rw [List.take_append_of_le_length (by simp), List.take_of_length_le (by simp)] at this
    rw [byteCells_flatten]; exact this
  have hold : holdsAt (stab (h.del br) w) br 0 (cc.toList.take bs.length) := fun j v hj => by
    rw [List.getElem?_take] at hj
    split at hj
    · simp only [stab, AHeap.del_same]
      rw [cell_of_cells hy, Nat.zero_add]
      simpa using hj
    · cases hj
  have hlen : (Go.Av.byteCells bs).length = bs.length := by simp [Go.Av.byteCells]
  have hnew : VRel (stab (h.del br) w) (.sl 1 (Go.Av.byteCells bs) .ro) (.slice (some ⟨br, 0, none⟩) bs.length cap) := by
    have := VRel.sl (st := stab (h.del br) w) 1 (Go.Av.byteCells bs) .ro br 0 cap _ hfl hold (byteCells_sz _) (by rw [hlen]; exact hc) hmax trivial
    rwa [hlen] at this
  have hs' : St n ds (Env.get ((t, .sl 1 (Go.Av.byteCells bs) .ro) :: l)) (h.del br) a w := ⟨hs.defers, hs.size, fun t' x hx => by
    by_cases he : t' = t
    · subst he
      obtain ⟨u, h1, h2⟩ := hs.env t' _ hl
      have hu := h2.inv_v
      subst hu
      have : x = .sl 1 (Go.Av.byteCells bs) .ro := by simpa [Env.get] using hx.symm
      subst this
      exact ⟨_, h1, hnew⟩
    · have hx' : Env.get l t' = some x := by
        simp only [Env.get] at hx
        have : Nat.beq t' t = false := by cases hb : Nat.beq t' t with | false => rfl | true => exact absurd (Nat.eq_of_beq_eq_true hb) he
        rwa [this] at hx
      obtain ⟨u, h1, h2⟩ := hs.env t' x hx'
      exact ⟨u, h1, h2.mono e1.stab⟩, r1⟩
  obtain ⟨a', w', t', j, E'', h'', ms, s, q1, q2, q3, q4, q5⟩ := H todo ht ds a w hs' b cs hb
  exact ⟨a', w', t', j, E'', h'', ms, s, q1, q2, q3, e1.trans q4, q5⟩
def r73l0 : RCode :=
  (.seq (.seq (.region [
    ⟨(some 7), none, .act, .mv (.tmp 2)⟩,
    ⟨(some 8), none, .act, .mv (.tmp 3)⟩,
    ⟨(some 9), none, .act, .bin .lss (.tmp 7) (.tmp 8)⟩])
  (.cond (.tmp 9)
   .skip
   (.exit 0)))
  (.seq (.block 1
   (.region [
     ⟨(some 14), none, .pure, .mv (.tmp 0)⟩,
     ⟨(some 15), none, .pure, .mv (.tmp 2)⟩,
     ⟨(some 16), none, .pure, .mv (.tmp 0)⟩,
     ⟨(some 17), none, .pure, .mv (.tmp 3)⟩,
     ⟨(some 18), none, .pure, .mv (.tmp 0)⟩,
     ⟨(some 19), none, .pure, .mv (.tmp 3)⟩,
     ⟨(some 20), none, .pure, .indexAddr 1 (.tmp 18) (.tmp 19)⟩,
     ⟨(some 21), none, .read, .load false 1 (.tmp 20)⟩,
     ⟨(some 22), none, .pure, .mv (.tmp 0)⟩,
     ⟨(some 23), none, .pure, .mv (.tmp 2)⟩,
     ⟨(some 24), none, .pure, .indexAddr 1 (.tmp 22) (.tmp 23)⟩,
     ⟨(some 25), none, .read, .load false 1 (.tmp 24)⟩,
     ⟨(some 26), none, .pure, .indexAddr 1 (.tmp 14) (.tmp 15)⟩,
     ⟨none, none, .act, .store 1 (.tmp 26) (.tmp 21)⟩,
     ⟨(some 27), none, .pure, .indexAddr 1 (.tmp 16) (.tmp 17)⟩,
     ⟨none, none, .act, .store 1 (.tmp 27) (.tmp 25)⟩]))
  (.region [
    ⟨(some 10), none, .act, .mv (.tmp 2)⟩,
    ⟨(some 11), none, .act, .bin .add (.tmp 10) (.const (.int .i64 1))⟩,
    ⟨(some 12), none, .act, .mv (.tmp 3)⟩,
    ⟨(some 13), none, .act, .bin .sub (.tmp 12) (.const (.int .i64 1))⟩,
    ⟨(some 2), none, .act, .mv (.tmp 11)⟩,
    ⟨(some 3), none, .act, .mv (.tmp 13)⟩])))
def r73 : RCode :=
  (.seq (.region [
    ⟨(some 4), none, .act, .mv (.tmp 0)⟩,
    ⟨(some 5), none, .act, .len (.tmp 4)⟩,
    ⟨(some 6), none, .act, .bin .sub (.tmp 5) (.const (.int .i64 1))⟩,
    ⟨(some 2), none, .act, .mv (.const (.int .i64 0))⟩,
    ⟨(some 3), none, .act, .mv (.tmp 6)⟩])
  (.block 0
   (.loop r73l0)))
theorem res73 : ∃ c, Try.f73.body = some c ∧ resCode Try.prog 28 c = some r73 := ⟨_, rfl, by kernel_rfl⟩
theorem rr73 : resRes Try.prog Try.f73.results.toList = some [] := by kernel_rfl
def revd (bs : List UInt8) (i : Nat) : List UInt8 := (List.range bs.length).map fun k => if k < i ∨ bs.length ≤ k + i then bs.getD (bs.length - 1 - k) 0 else bs.getD k 0
theorem revd_zero (bs : List UInt8) : revd bs 0 = bs := by
  apply List.ext_getElem?
  intro k
  simp only [revd, List.getElem?_map]
  by_cases hk : k < bs.length
  · have : ¬ (k < 0 ∨ bs.length ≤ k + 0) := by omega
    simp [List.getElem?_range hk, this, hk, List.getD]
    intro h; omega
  · simp [hk]
theorem revd_done (bs : List UInt8) (i : Nat) (hi : bs.length ≤ 2 * i + 1) : revd bs i = bs.reverse := by
  apply List.ext_getElem?
  intro k
  simp only [revd, List.getElem?_map]
  by_cases hk : k < bs.length
  · rw [List.getElem?_range hk, List.getElem?_reverse hk]
    have h2 : bs.length - 1 - k < bs.length := by omega
    by_cases hc : k < i ∨ bs.length ≤ k + i
    · simp [hc, List.getD, h2]
    · have : bs.length - 1 - k = k := by omega
      simp [hc, List.getD, this, hk]
  · have h3 : bs.reverse.length ≤ k := by simp; omega
    simp [hk, List.getElem?_eq_none h3]
theorem revd_len (bs : List UInt8) (i : Nat) : (revd bs i).length = bs.length := by simp [revd]
theorem revd_get {bs : List UInt8} {i k : Nat} (hk : k < bs.length) : (revd bs i)[k]? = some (if k < i ∨ bs.length ≤ k + i then bs.getD (bs.length - 1 - k) 0 else bs.getD k 0) := by
  simp only [revd, List.getElem?_map, List.getElem?_range hk, Option.map_some]
theorem revd_step (bs : List UInt8) (i : Nat) (hi : 2 * i + 1 < bs.length) : ((revd bs i).set i (bs.getD (bs.length - 1 - i) 0)).set (bs.length - 1 - i) (bs.getD i 0) = revd bs (i + 1) := by
  apply List.ext_getElem?
  intro k
  by_cases hk : k < bs.length
  · rw [revd_get hk, List.getElem?_set, List.getElem?_set]
    by_cases h1 : bs.length - 1 - i = k
    · have h2 : bs.length ≤ k + (i + 1) := by omega
      have h3 : bs.length - 1 - k = i := by omega
      simp [h1, h2, h3, revd_len, hk]
    · by_cases h2 : i = k
      · subst h2
        have h3 : i < i + 1 := by omega
        simp [h1, revd_len, hk]
      · rw [if_neg h1, if_neg h2, revd_get hk]
        have : (k < i ∨ bs.length ≤ k + i) ↔ (k < i + 1 ∨ bs.length ≤ k + (i + 1)) := by omega
        simp only [this]
  · rw [List.getElem?_eq_none (by simp [revd_len]; omega), List.getElem?_eq_none (by simp [revd_len]; omega)]
theorem over_one (A S : List AV) (x : AV) (n : Nat) (hn : n < A.length) : over (A ++ S) n [x] = A.set n x ++ S := by
  unfold over
  rw [List.take_append_of_le_length (by omega), List.drop_append_of_le_length (by simp; omega), ← List.append_assoc]
  congr 1
  rw [List.set_eq_take_append_cons_drop, if_pos hn]
  simp
theorem load_u8 {A S : List AV} {n : Nat} {b : UInt8} (h : A[n]? = some (u8 b)) : loadAV false 1 ((A ++ S).drop n) = some (u8 b) := by
  have hn : n < A.length := (List.getElem?_eq_some_iff.1 h).1
  rw [List.drop_append_of_le_length (by omega), List.drop_eq_getElem_cons hn]
  have : A[n] = u8 b := by rw [List.getElem?_eq_getElem hn] at h; exact Option.some.inj h
  rw [this]; rfl
theorem S.storeByte {P : Program} {c : Cls} {E : AEnv} {h : AHeap} {K : AV → AHeap → Prop} {x y : Operand} {b off n : Nat} {A S : List AV} {v : UInt8} (hc : c = .act) (hx : aev E x = some (ptrAt b off)) (ho : off = n) (hb : h b = some (.box (A ++ S))) (hy : aev E y = some (u8 v)) (hn : n < A.length)
    (hk : K (.v undef) (h.set b (.box (A.set n (u8 v) ++ S)))) : ROpS P c (.store 1 x y) E h K := by
  subst ho
  exact R.store hc hx hb hy rfl rfl (by simp; omega) (by rw [over_one _ _ _ _ hn]; exact hk)
theorem S.loadByte {P : Program} {c : Cls} {E : AEnv} {h : AHeap} {K : AV → AHeap → Prop} {x : Operand} {b off n : Nat} {l : List UInt8} {S : List AV} {v : UInt8} (hc : c ≠ .pure) (hx : aev E x = some (ptrAt b off)) (ho : off = n) (hb : h b = some (.box (l.map u8 ++ S))) (hv : l[n]? = some v)
    (hk : K (u8 v) h) : ROpS P c (.load false 1 x) E h K := by
  subst ho
  exact R.load hc hx hb (load_u8 (by rw [List.getElem?_map, hv]; rfl)) hk
theorem rev_loop (bs : List UInt8) (hl : bs.length ≤ 1000000) (b cap : Nat) (sp : List AV) (hcap : bs.length ≤ cap) (k : List RT) (Q : AV → AHeap → Prop) : ∀ (m i j : Nat) (h : AHeap), j ≤ m → i + j + 1 = bs.length → h b = some (.box ((revd bs i).map u8 ++ sp)) →
    RRun Try.prog Try.f73 28 k (Env.get []) (h.set b (.box (bs.reverse.map u8 ++ sp))) Q →
    RRun Try.prog Try.f73 28 (.inLoop r73l0 :: .inBlock 0 :: k) (Env.get [(2, i64 i), (3, i64 j), (0, slAt b 0 bs.length cap)]) h Q := by
  have stop : ∀ (i j : Nat) (h : AHeap), ¬ i < j → i + j + 1 = bs.length → h b = some (.box ((revd bs i).map u8 ++ sp)) →
    RRun Try.prog Try.f73 28 k (Env.get []) (h.set b (.box (bs.reverse.map u8 ++ sp))) Q →
    RRun Try.prog Try.f73 28 (.inLoop r73l0 :: .inBlock 0 :: k) (Env.get [(2, i64 i), (3, i64 j), (0, slAt b 0 bs.length cap)]) h Q := by
    intro i j h hlt hij hb hk
    refine RRun.inLoop ?_
    repeat' (first | refine S.nilK ?_ | (refine S.op rfl ?_; first | refine R.mv rfl ?_ | ((first | refine S.lss rfl rfl ?_ ?_) <;> intro hlt <;> try (exfalso; omega))) | refine S.seq ?_ | refine S.region ?_ | refine S.condF rfl ?_ | refine RRun.exit rfl ?_)
    have he : h.set b (.box (bs.reverse.map u8 ++ sp)) = h := by
      rw [← revd_done bs i (by omega)]; exact AHeap.set_eq h hb
    rw [he] at hk
    exact S.keep [] rfl hk
  intro m
  induction m with
  | zero =>
    intro i j h hj hij hb hk
    exact stop i j h (by omega) hij hb hk
  | succ m ih =>
    intro i j h hj hij hb hk
    by_cases hlt : i < j
    · have hi : i < bs.length := by omega
      have hjl : j < bs.length := by omega
      have gj : (revd bs i)[j]? = some (bs.getD j 0) := by rw [revd_get hjl, if_neg (by omega)]
      have gi : (revd bs i)[i]? = some (bs.getD i 0) := by rw [revd_get hi, if_neg (by omega)]
      have hstep := revd_step bs i (by omega)
      rw [show bs.length - 1 - i = j by omega] at hstep
      generalize bs.getD j 0 = x at gj hstep
      generalize bs.getD i 0 = y at gi hstep
      have hrl := revd_len bs i
      refine RRun.inLoop ?_
      repeat' (first | (refine S.op0 rfl (S.storeByte (n := i) (v := x) rfl rfl (by omega) hb rfl (by simp; omega) ?_)) | (refine S.op0 rfl (S.storeByte (n := j) (v := y) rfl rfl (by omega) (AHeap.set_same _ _ _) rfl (by simp; omega) ?_)) | refine S.nilK ?_ | (refine S.op rfl ?_; first | refine R.indexAddrV rfl rfl (by omega) (by omega) ?_ | refine S.loadByte (n := j) (by decide) rfl (by omega) hb gj ?_ | refine S.loadByte (n := i) (by decide) rfl (by omega) hb gi ?_ | refine R.mv rfl ?_ | refine S.addI rfl rfl (by omega) ?_ | refine S.subI rfl rfl (by omega) ?_ | ((first | refine S.lss rfl rfl ?_ ?_) <;> intro hlt <;> try (exfalso; omega))) | refine S.seq ?_ | refine S.region ?_ | refine S.condT rfl ?_ | refine RRun.skip ?_ | refine RRun.block ?_ | refine RRun.inBlock ?_)
      rw [show ((i : Int) + 1) = ((i + 1 : Nat) : Int) by omega, show ((j : Int) - 1) = ((j - 1 : Nat) : Int) by omega, AHeap.set_set, ← List.map_set, ← List.map_set, hstep]
      exact S.keep [2, 3, 0] rfl (ih (i + 1) (j - 1) _ (by omega) (by omega) (AHeap.set_same _ _ _) (by rw [AHeap.set_set]; exact hk))
    · exact stop i j h hlt hij hb hk
theorem reverse_spec (bs : List UInt8) (hne : bs ≠ []) (hl : bs.length ≤ 1000000) (b cap : Nat) (sp : List AV) (hcap : bs.length ≤ cap) (h : AHeap) (hb : h b = some (.box (bs.map u8 ++ sp))) :
    ACalls Try.prog 73 [slAt b 0 bs.length cap] h (fun _ h' => h' = h.set b (.box (bs.reverse.map u8 ++ sp))) := by
  obtain ⟨c, hc1, hc2⟩ := res73
  refine ACalls.enter Try.func73 hc1 Try.ntmps73 hc2 (Nat.le_of_ble_eq_true rfl) rfl ?_
  have hpos : 0 < bs.length := List.length_pos_iff.2 hne
  repeat' (first | refine S.nilK ?_ | (refine S.op rfl ?_; first | refine R.mv rfl ?_ | refine S.subI rfl rfl (by omega) ?_ | refine R.lenA rfl ?_) | refine S.seq ?_ | refine S.region ?_ | refine RRun.block ?_)
  rw [show ((bs.length : Int) - 1) = ((bs.length - 1 : Nat) : Int) by omega]
  refine RRun.loopIn (S.keep [2, 3, 0] rfl (rev_loop bs hl b cap sp hcap _ _ (bs.length - 1) 0 (bs.length - 1) h (Nat.le_refl _) (by omega) (by rw [revd_zero]; exact hb) ?_))
  repeat' (fail)
  apply S.done rr73
  case hx => repeat (first | exact ResAt.nil)
  rfl
def dec (m : Nat) : List UInt8 := if m < 10 then [UInt8.ofNat (48 + m)] else dec (m / 10) ++ [UInt8.ofNat (48 + m % 10)]
termination_by m
def numB (n : Int) : List UInt8 := (if n < 0 then [45] else []) ++ dec n.natAbs
theorem dec_small {m : Nat} (h : m < 10) : dec m = [UInt8.ofNat (48 + m)] := by rw [dec, if_pos h]
theorem dec_big {m : Nat} (h : ¬ m < 10) : dec m = dec (m / 10) ++ [UInt8.ofNat (48 + m % 10)] := by rw [dec, if_neg h]
theorem dec_len : ∀ (k m : Nat), m < 10 ^ (k + 1) → (dec m).length ≤ k + 1 := by
  intro k
  induction k with
  | zero => intro m h; rw [dec_small (by omega)]; simp
  | succ k ih =>
    intro m h
    by_cases h1 : m < 10
    · rw [dec_small h1]; simp
    · rw [dec_big h1, List.length_append]
      have := ih (m / 10) (by rw [Nat.div_lt_iff_lt_mul (by decide)]; rw [Nat.pow_succ] at h; omega)
      simp; omega
theorem dec_len64 {m : Nat} (h : m ≤ 9223372036854775808) : (dec m).length ≤ 19 := dec_len 18 m (by omega)
theorem u8_digit {d : Nat} (h : d < 10) : (UInt8.ofNat (48 + d)).toNat = 48 + d := by
  simp; omega
end Go.Proofs.Ytdinnoejipmiiaa

namespace Go.Proofs.Ytdinnoejipmiiaa
open Go.Av
section
variable {P : Program} {c : Cls} {E : AEnv} {h : AHeap} {K : AV → AHeap → Prop}
theorem S.rem10 {x : Operand} {n d : Int} (hd : n.tmod 10 = d) (hx : aev E x = some (i64 n)) (hk : K (i64 d) h) : ROpS P c (.bin .rem x (.const (.int .i64 10))) E h K :=
  R.bin hx rfl (show binInt .rem .i64 n 10 = some (.int .i64 d) by rw [← hd]; rfl) hk
theorem S.quo10 {x : Operand} {n q : Int} (hq : n.tdiv 10 = q) (hf : Fits q) (hx : aev E x = some (i64 n)) (hk : K (i64 q) h) : ROpS P c (.bin .quo x (.const (.int .i64 10))) E h K :=
  R.bin hx rfl (show binInt .quo .i64 n 10 = some (.int .i64 q) by
    show some (Value.int .i64 (IntKind.i64.wrap (n.tdiv 10))) = _
    rw [hq, wrap_i64 hf.1 hf.2]) hk
theorem S.negI {x : Operand} {n m : Int} (hm : 0 - n = m) (hf : Fits m) (hx : aev E x = some (i64 n)) (hk : K (i64 m) h) : ROpS P c (.un .neg x) E h K :=
  R.neg hx (by rw [hm, wrap_i64 hf.1 hf.2]; exact hk)
theorem S.convDigit {x : Operand} {d : Nat} (hd : d < 10) (hx : aev E x = some (i64 (48 + (d : Int)))) (hk : K (u8 (UInt8.ofNat (48 + d))) h) : ROpS P c (.convInt .u8 x) E h K := by
  refine R.convInt hx ?_
  have : IntKind.u8.wrap (48 + (d : Int)) = ((UInt8.ofNat (48 + d)).toNat : Int) := by
    rw [u8_digit hd]
    simp only [IntKind.wrap, IntKind.bits, IntKind.signed]
    simp
    omega
  rw [this]; exact hk
end
theorem int10 (n : Int) (hf : Fits n) : ∃ d q : Int, ∃ e : Nat, n.tmod 10 = d ∧ n.tdiv 10 = q ∧ e = n.natAbs % 10 ∧ d.natAbs = e ∧ q.natAbs = n.natAbs / 10 ∧ e < 10 ∧ (0 ≤ n → d = e ∧ 0 ≤ q) := by
  refine ⟨_, _, _, rfl, rfl, rfl, by rw [Int.natAbs_tmod]; rfl, by rw [Int.natAbs_tdiv]; rfl, Nat.mod_lt _ (by decide), fun h0 => ?_⟩
  rw [Int.tmod_eq_emod_of_nonneg h0, Int.tdiv_eq_ediv_of_nonneg h0]
  omega
def r60l0 : RCode :=
  (.block 1
   (.seq (.region [
     ⟨(some 8), none, .act, .mv (.tmp 0)⟩,
     ⟨(some 9), none, .act, .bin .rem (.tmp 8) (.const (.int .i64 10))⟩,
     ⟨(some 5), none, .act, .mv (.tmp 9)⟩])
   (.seq (.region [
     ⟨(some 10), none, .act, .mv (.tmp 3)⟩,
     ⟨(some 11), none, .act, .mv (.tmp 5)⟩,
     ⟨(some 12), none, .act, .mv (.tmp 5)⟩,
     ⟨(some 13), none, .act, .un .neg (.tmp 12)⟩,
     ⟨(some 14), none, .act, .minmax true [(.tmp 11), (.tmp 13)]⟩,
     ⟨(some 15), none, .act, .bin .add (.const (.int .i64 48)) (.tmp 14)⟩,
     ⟨(some 16), none, .act, .convInt .u8 (.tmp 15)⟩,
     ⟨(some 17), none, .act, .buildSl 1 [(.int .u8 0)] 1 [(0, (.tmp 16))]⟩,
     ⟨(some 18), none, .act, .append 1 1 [(.int .u8 0)] (.tmp 10) (.tmp 17)⟩,
     ⟨(some 3), none, .act, .mv (.tmp 18)⟩])
   (.seq (.region [
     ⟨(some 19), none, .act, .mv (.tmp 0)⟩,
     ⟨(some 20), none, .act, .bin .quo (.tmp 19) (.const (.int .i64 10))⟩,
     ⟨(some 0), none, .act, .mv (.tmp 20)⟩])
   (.seq (.region [
     ⟨(some 21), none, .act, .mv (.tmp 0)⟩,
     ⟨(some 22), none, .act, .eq false .int (.tmp 21) (.const (.int .i64 0))⟩])
   (.cond (.tmp 22)
    (.exit 0)
    .skip))))))
def r60 : RCode :=
  (.seq (.region [
    ⟨(some 2), none, .act, .mv (.const (.slice none 0 0))⟩])
  (.seq (.region [
    ⟨(some 3), none, .act, .mv (.const (.slice none 0 0))⟩])
  (.seq (.region [
    ⟨(some 6), none, .act, .mv (.tmp 0)⟩,
    ⟨(some 7), none, .act, .bin .lss (.tmp 6) (.const (.int .i64 0))⟩,
    ⟨(some 4), none, .act, .mv (.tmp 7)⟩])
  (.seq (.block 0
   (.loop r60l0))
  (.seq (.seq (.region [
    ⟨(some 23), none, .act, .mv (.tmp 4)⟩])
  (.cond (.tmp 23)
   (.region [
     ⟨(some 24), none, .act, .mv (.tmp 3)⟩,
     ⟨(some 25), none, .act, .buildSl 1 [(.int .u8 0)] 1 [(0, (.const (.int .u8 45)))]⟩,
     ⟨(some 26), none, .act, .append 1 1 [(.int .u8 0)] (.tmp 24) (.tmp 25)⟩,
     ⟨(some 3), none, .act, .mv (.tmp 26)⟩])
   .skip))
  (.seq (.region [
    ⟨(some 27), none, .act, .mv (.tmp 3)⟩,
    ⟨(some 28), none, .act, .call 73 [(.tmp 27)]⟩])
  (.seq (.region [
    ⟨(some 29), none, .act, .mv (.tmp 3)⟩,
    ⟨(some 2), none, .act, .mv (.tmp 29)⟩])
  .ret)))))))
theorem res60 : ∃ c, Try.f60.body = some c ∧ resCode Try.prog 30 c = some r60 := ⟨_, rfl, by kernel_rfl⟩
theorem rr60 : resRes Try.prog Try.f60.results.toList = some [.tmp 2] := by kernel_rfl
theorem digits_loop (m0 : Nat) (hm0 : m0 ≤ 9223372036854775808) (h₀ : AHeap) (k : List RT) (Q : AV → AHeap → Prop) (neg : Bool)
    (hk : ∀ v cs h, cs.reverse = dec m0 → RowAt h₀ cs v h → RRun Try.prog Try.f60 30 k (Env.get [(3, v), (4, bl neg)]) h Q) :
    ∀ (f : Nat) (n : Int) (cs : List UInt8) (v : AV) (h : AHeap), n.natAbs < f → Fits n → dec m0 = dec n.natAbs ++ cs.reverse → RowAt h₀ cs v h →
    RRun Try.prog Try.f60 30 (.inLoop r60l0 :: .inBlock 0 :: k) (Env.get [(0, i64 n), (3, v), (4, bl neg)]) h Q := by
  intro f
  induction f with
  | zero => intro n cs v h hn; omega
  | succ f ih =>
    intro n cs v h hn hf hd hr
    obtain ⟨d, q, e, h1, h2, h3, h4, h5, h6, h7⟩ := int10 n hf
    have hmax : maxInt [-d] d = (e : Int) := by
      simp only [maxInt]
      split <;> omega
    have hcl : cs.length ≤ 19 := by
      have := dec_len64 hm0
      rw [hd, List.length_append, List.length_reverse] at this
      omega
    refine RRun.inLoop ?_
    repeat' (first | refine S.nilK ?_ | (refine S.op rfl ?_; first | refine S.rem10 h1 rfl ?_ | refine S.negI (m := -d) (by omega) (by omega) rfl ?_ | refine S.maxIs (r := (e : Int)) rfl hmax ?_ | refine S.convDigit h6 rfl ?_ | refine R.mv rfl ?_ | refine S.addI rfl rfl (by omega) ?_ | refine R.buildSl rfl rfl rfl (by decide) ?_) | refine S.seq ?_ | refine S.region ?_ | refine RRun.block ?_)
    refine S.op rfl (S.pushByte (b := UInt8.ofNat (48 + e)) rfl hr rfl rfl (.sl _ _) (by omega) (fun v' h' hr' => ?_))
    repeat' (first | refine S.nilK ?_ | (refine S.op rfl ?_; first | refine S.quo10 h2 (by omega) rfl ?_ | refine R.mv rfl ?_ | ((first | refine S.eqInt rfl rfl ?_ ?_) <;> intro hlt <;> try (exfalso; omega))) | refine S.seq ?_ | refine S.region ?_ | refine S.condT rfl ?_ | refine S.condF rfl ?_ | refine RRun.skip ?_ | refine RRun.inBlock ?_ | refine RRun.exit rfl ?_)
    · have hsm : n.natAbs < 10 := by omega
      refine S.keep [3, 4] rfl (hk v' _ h' ?_ hr')
      rw [hd, dec_small hsm, show n.natAbs = e by omega]
      simp
    · have hbg : ¬ n.natAbs < 10 := by omega
      refine S.keep [0, 3, 4] rfl (ih q _ v' h' (by omega) (by omega) ?_ hr')
      rw [hd, dec_big hbg, h5, ← h3]
      simp
theorem RowAt.full {h₀ h : AHeap} {bs : List UInt8} {v : AV} (hr : RowAt h₀ bs v h) (hne : bs ≠ []) : ∃ b cap sp, h₀ b = none ∧ v = slAt b 0 bs.length cap ∧ h = h₀.set b (.box (bs.map u8 ++ sp)) ∧ bs.length + sp.length = cap ∧ cap ≤ maxLen := by
  rcases hr with ⟨h1, _⟩ | ⟨b, cap, sp, h1, h2, h3, h4, h5, _⟩
  · exact absurd h1 hne
  · exact ⟨b, cap, sp, h1, h2, h3, h4, h5⟩
theorem set_del {h : AHeap} {b : Nat} {o : ABlk} (hb : h b = none) : (h.set b o).del b = h := by
  funext x
  by_cases hx : x = b
  · subst hx; simp [hb]
  · rw [AHeap.del_other _ hx, AHeap.set_other _ _ hx]
theorem dec_ne (m : Nat) : dec m ≠ [] := by
  rw [dec]; split <;> simp
theorem digits_end (bs : List UInt8) (hl : bs.length ≤ 1000) (hne : bs ≠ []) (n : Int) (hnb : bs.reverse = numB n) (v : AV) (h₀ h : AHeap) (hr : RowAt h₀ bs v h) (k : List RT) (ngv : AV) :
    RRun Try.prog Try.f60 30 (.code (.seq (.region [
    ⟨(some 27), none, .act, .mv (.tmp 3)⟩,
    ⟨(some 28), none, .act, .call 73 [(.tmp 27)]⟩])
  (.seq (.region [
    ⟨(some 29), none, .act, .mv (.tmp 3)⟩,
    ⟨(some 2), none, .act, .mv (.tmp 29)⟩])
  .ret)) :: k) (Env.get [(3, v), (4, ngv)]) h (fun x h' => x = .sl 1 (Go.Av.byteCells (numB n)) .ro ∧ h' = h₀) := by
  obtain ⟨b, cap, sp, h1, rfl, rfl, h2, h3⟩ := hr.full hne
  repeat' (first | (refine S.op rfl ?_; first | refine R.mv rfl ?_) | refine S.seq ?_ | refine S.region ?_)
  refine S.op rfl (callU rfl rfl (reverse_spec bs hne (by omega) b cap sp (by omega) _ (AHeap.set_same _ _ _)) (fun x => ?_))
  rw [AHeap.set_set, hnb]
  refine S.nilK (RRun.freezeT (t := 3) (bs := numB n) (by rw [← hnb]; simp) rfl (AHeap.set_same _ _ _) ?_ h3 ?_)
  · rw [← hnb]; simp; omega
  · rw [set_del h1]
    repeat' (first | refine S.nilK ?_ | (refine S.op rfl ?_; first | refine R.mv rfl ?_) | refine S.seq ?_ | refine S.region ?_)
    apply S.ret rr60
    case hx => repeat (first | exact ResAt.nil | apply ResAt.tmp rfl)
    exact ⟨rfl, rfl⟩
theorem digits_spec (n : Int) (hf : Fits n) (h : AHeap) : ACalls Try.prog 60 [i64 n] h (fun x h' => x = .sl 1 (Go.Av.byteCells (numB n)) .ro ∧ h' = h) := by
  obtain ⟨c, hc1, hc2⟩ := res60
  refine ACalls.enter Try.func60 hc1 Try.ntmps60 hc2 (Nat.le_of_ble_eq_true rfl) rfl ?_
  have hm0 : n.natAbs ≤ 9223372036854775808 := by omega
  by_cases hneg : n < 0
  · have hnb : ∀ cs : List UInt8, cs.reverse = dec n.natAbs → (cs ++ [45]).reverse = numB n := fun cs hc => by simp [numB, hneg, hc]
    repeat' (first | refine S.nilK ?_ | (refine S.op rfl ?_; first | refine R.mv rfl ?_ | ((first | refine S.lss rfl rfl ?_ ?_) <;> intro hlt <;> try (exfalso; omega))) | refine S.seq ?_ | refine S.region ?_ | refine RRun.block ?_)
    refine RRun.loopIn (S.keep [0, 3, 4] rfl (digits_loop n.natAbs hm0 h _ _ true (fun v cs h' hcs hr => ?_) (n.natAbs + 1) n [] _ h (by omega) hf (by simp) (.inl ⟨rfl, rfl, rfl⟩)))
    have hcl : cs.length ≤ 19 := by
      have := dec_len64 hm0
      rw [← hcs, List.length_reverse] at this; omega
    repeat' (first | ((show RRun Try.prog Try.f60 30 (.code (.seq (.region [⟨(some 27), none, .act, .mv (.tmp 3)⟩, _]) _) :: _) _ _ _; exact S.keep [3, 4] rfl (digits_end _ (by simp; omega) (by simp) n (hnb _ hcs) _ _ _ (by assumption) _ _))) | (refine S.op rfl (S.pushByte (b := 45) rfl hr rfl rfl (.sl _ _) (by omega) (fun v' h'' hr' => ?_))) | refine S.nilK ?_ | (refine S.op rfl ?_; first | refine R.mv rfl ?_ | refine R.buildSl rfl rfl rfl (by decide) ?_) | refine S.seq ?_ | refine S.region ?_ | refine S.condT rfl ?_)
  · have hnb : ∀ cs : List UInt8, cs.reverse = dec n.natAbs → cs.reverse = numB n := fun cs hc => by simp [numB, hneg, hc]
    repeat' (first | refine S.nilK ?_ | (refine S.op rfl ?_; first | refine R.mv rfl ?_ | ((first | refine S.lss rfl rfl ?_ ?_) <;> intro hlt <;> try (exfalso; omega))) | refine S.seq ?_ | refine S.region ?_ | refine RRun.block ?_)
    refine RRun.loopIn (S.keep [0, 3, 4] rfl (digits_loop n.natAbs hm0 h _ _ false (fun v cs h' hcs hr => ?_) (n.natAbs + 1) n [] _ h (by omega) hf (by simp) (.inl ⟨rfl, rfl, rfl⟩)))
    have hcl : cs.length ≤ 19 := by
      have := dec_len64 hm0
      rw [← hcs, List.length_reverse] at this; omega
    repeat' (first | ((show RRun Try.prog Try.f60 30 (.code (.seq (.region [⟨(some 27), none, .act, .mv (.tmp 3)⟩, _]) _) :: _) _ _ _; exact S.keep [3, 4] rfl (digits_end _ (by omega) (by rintro rfl; exact dec_ne _ hcs.symm) n (hnb _ hcs) _ _ _ (by assumption) _ _))) | refine S.nilK ?_ | (refine S.op rfl ?_; first | refine R.mv rfl ?_) | refine S.seq ?_ | refine S.region ?_ | refine S.condF rfl ?_ | refine RRun.skip ?_)
end Go.Proofs.Ytdinnoejipmiiaa

namespace Go.Proofs.Ytdinnoejipmiiaa
open Go.Av
def dbl (s : List UInt8) : List UInt8 := s.flatMap fun b => if b = 39 then [39, 39] else [b]
def tokText (t : Tok) : List UInt8 := if t.kind = 2 then numB t.n else if t.kind = 3 then 39 :: (dbl t.s ++ [39]) else t.s
theorem dbl_len (s : List UInt8) : (dbl s).length ≤ 2 * s.length := by
  induction s with
  | nil => simp [dbl]
  | cons a s ih =>
    have : dbl (a :: s) = (if a = 39 then [39, 39] else [a]) ++ dbl s := rfl
    rw [this, List.length_append, List.length_cons]
    split <;> simp <;> omega
theorem dbl_app (a b : List UInt8) : dbl (a ++ b) = dbl a ++ dbl b := by simp [dbl]
theorem numB_len {n : Int} (hf : Fits n) : (numB n).length ≤ 20 := by
  have := dec_len64 (m := n.natAbs) (by omega)
  unfold numB
  split <;> simp <;> omega
theorem tokText_len {t : Tok} (hf : Fits t.n) : (tokText t).length ≤ 2 * t.s.length + 20 := by
  have h1 := numB_len hf
  have h2 := dbl_len t.s
  unfold tokText
  split
  · omega
  · split
    · simp only [List.length_cons, List.length_append, List.length_nil]; omega
    · omega
end Go.Proofs.Ytdinnoejipmiiaa

namespace Go.Proofs.Ytdinnoejipmiiaa
open Go.Av
def putT (ts : List Tok) : List UInt8 := ts.zipIdx.flatMap fun p => (if 0 < p.2 then [32] else []) ++ tokText p.1
theorem putT_snoc (a : List Tok) (t : Tok) : putT (a ++ [t]) = putT a ++ (if 0 < a.length then [32] else []) ++ tokText t := by
  simp [putT, List.zipIdx_append]
theorem putT_take {ts : List Tok} {j : Nat} {t : Tok} (h : ts[j]? = some t) : putT (ts.take (j + 1)) = putT (ts.take j) ++ (if 0 < j then [32] else []) ++ tokText t := by
  have hlt := (List.getElem?_eq_some_iff.1 h).1
  rw [List.take_add_one, h, Option.toList_some, putT_snoc]
  have : (ts.take j).length = j := by simp; omega
  rw [this]
def Puts (ts : List Tok) : Prop := ts.length ≤ 1000 ∧ ∀ t ∈ ts, t.s.length ≤ 1000000 ∧ Fits t.n
theorem putT_len {ts : List Tok} (hp : Puts ts) : ∀ j, j ≤ ts.length → (putT (ts.take j)).length ≤ j * 2000021 := by
  intro j
  induction j with
  | zero => intro _; simp [putT]
  | succ j ih =>
    intro hj
    have h1 : ts[j]? = some ts[j] := List.getElem?_eq_getElem (by omega)
    have h2 := hp.2 ts[j] (List.getElem_mem _)
    have h3 := tokText_len h2.2
    have := ih (by omega)
    rw [putT_take h1, List.length_append, List.length_append]
    have : (if 0 < j then [(32 : UInt8)] else []).length ≤ 1 := by split <;> simp
    omega
theorem S.appBytes {P : Program} {c : Cls} {E : AEnv} {h₀ h : AHeap} {K : AV → AHeap → Prop} {zero : List Value} {x y : Operand} {s : AV} {acc ys : List UInt8} {c0 : Cap} (hc : c = .act) (hg : Grow h₀ h c0) (hx : aev E x = some (.sl 1 (Go.Av.byteCells acc) c0)) (hy : aev E y = some s) (hs : Go.Av.Src 1 s (Go.Av.byteCells ys)) (hlen : acc.length + ys.length ≤ 4000000000000)
    (hk : ∀ c' h', Grow h₀ h' c' → (∀ x cs, h x = some (.box cs) → h' x = some (.box cs)) → K (.sl 1 (Go.Av.byteCells (acc ++ ys)) c') h') : ROpS P c (.append 1 1 zero x y) E h K := by
  refine S.appendG hc hg hx (.sl _ _) hy hs ?_ ?_ ?_ (fun c' h' g1 g2 => ?_)
  · intro e he a ha
    simp only [Go.Av.byteCells, List.mem_map] at he
    obtain ⟨u, _, rfl⟩ := he
    simp only [byteCell, List.mem_singleton] at ha
    subst ha; rfl
  · simp only [Go.Av.byteCells, List.length_map]; omega
  · simp only [Go.Av.byteCells, List.length_map]; omega
  · have := hk c' h' g1 g2
    simpa [Go.Av.byteCells] using this
theorem srcStr (s : List UInt8) : Go.Av.Src 1 (str s) (Go.Av.byteCells s) := by
  have := Go.Av.Src.str (sz := 1) ⟨s.toArray⟩ rfl
  simpa using this
def r46l1 : RCode :=
  (.seq (.region [
    ⟨(some 43), none, .act, .bin .lss (.tmp 42) (.tmp 41)⟩])
  (.seq (.cond (.tmp 43)
   .skip
   (.exit 3))
  (.seq (.block 4
   (.seq (.region [
     ⟨(some 44), none, .act, .indexAddr 1 (.tmp 40) (.tmp 42)⟩,
     ⟨(some 45), none, .act, .load false 1 (.tmp 44)⟩,
     ⟨(some 7), none, .act, .mv (.tmp 45)⟩])
   (.seq (.region [
     ⟨(some 46), none, .act, .mv (.tmp 3)⟩,
     ⟨(some 47), none, .act, .mv (.tmp 7)⟩,
     ⟨(some 48), none, .act, .buildSl 1 [(.int .u8 0)] 1 [(0, (.tmp 47))]⟩,
     ⟨(some 49), none, .act, .append 1 1 [(.int .u8 0)] (.tmp 46) (.tmp 48)⟩,
     ⟨(some 3), none, .act, .mv (.tmp 49)⟩])
   (.seq (.region [
     ⟨(some 50), none, .act, .mv (.tmp 7)⟩,
     ⟨(some 51), none, .act, .eq false .int (.tmp 50) (.const (.int .u8 39))⟩])
   (.cond (.tmp 51)
    (.region [
      ⟨(some 52), none, .act, .mv (.tmp 3)⟩,
      ⟨(some 53), none, .act, .mv (.tmp 7)⟩,
      ⟨(some 54), none, .act, .buildSl 1 [(.int .u8 0)] 1 [(0, (.tmp 53))]⟩,
      ⟨(some 55), none, .act, .append 1 1 [(.int .u8 0)] (.tmp 52) (.tmp 54)⟩,
      ⟨(some 3), none, .act, .mv (.tmp 55)⟩])
    .skip)))))
  (.region [
    ⟨(some 56), none, .act, .bin .add (.tmp 42) (.const (.int .i64 1))⟩,
    ⟨(some 42), none, .act, .mv (.tmp 56)⟩]))))
def r46l0 : RCode :=
  (.seq (.region [
    ⟨(some 11), none, .act, .bin .lss (.tmp 10) (.tmp 9)⟩])
  (.seq (.cond (.tmp 11)
   .skip
   (.exit 0))
  (.seq (.block 1
   (.seq (.region [
     ⟨(some 12), none, .act, .mv (.tmp 10)⟩,
     ⟨(some 13), none, .act, .indexAddr 4 (.tmp 8) (.tmp 10)⟩,
     ⟨(some 14), none, .act, .load true 4 (.tmp 13)⟩,
     ⟨(some 5), none, .act, .alloc [(.int .i64 0), (.string ⟨#[]⟩), (.int .i64 0), (.int .i64 0)]⟩,
     ⟨(some 4), none, .act, .mv (.tmp 12)⟩,
     ⟨none, none, .act, .store 4 (.tmp 5) (.tmp 14)⟩])
   (.seq (.seq (.region [
     ⟨(some 15), none, .act, .mv (.tmp 4)⟩,
     ⟨(some 16), none, .act, .bin .gtr (.tmp 15) (.const (.int .i64 0))⟩])
   (.cond (.tmp 16)
    (.region [
      ⟨(some 17), none, .act, .mv (.tmp 3)⟩,
      ⟨(some 18), none, .act, .buildSl 1 [(.int .u8 0)] 1 [(0, (.const (.int .u8 32)))]⟩,
      ⟨(some 19), none, .act, .append 1 1 [(.int .u8 0)] (.tmp 17) (.tmp 18)⟩,
      ⟨(some 3), none, .act, .mv (.tmp 19)⟩])
    .skip))
   (.seq (.region [
     ⟨(some 20), none, .act, .fieldAddr 0 (.tmp 5)⟩,
     ⟨(some 21), none, .act, .load false 1 (.tmp 20)⟩])
   (.block 2
    (.seq (.region [
      ⟨(some 27), none, .act, .eq false .int (.tmp 21) (.const (.int .i64 2))⟩,
      ⟨(some 26), none, .act, .mv (.tmp 27)⟩])
    (.cond (.tmp 26)
     (.region [
       ⟨(some 28), none, .act, .mv (.tmp 3)⟩,
       ⟨(some 29), none, .act, .fieldAddr 2 (.tmp 5)⟩,
       ⟨(some 30), none, .act, .load false 1 (.tmp 29)⟩,
       ⟨(some 31), none, .act, .call 60 [(.tmp 30)]⟩,
       ⟨(some 32), none, .act, .append 1 1 [(.int .u8 0)] (.tmp 28) (.tmp 31)⟩,
       ⟨(some 3), none, .act, .mv (.tmp 32)⟩])
     (.seq (.region [
       ⟨(some 34), none, .act, .eq false .int (.tmp 21) (.const (.int .i64 3))⟩,
       ⟨(some 33), none, .act, .mv (.tmp 34)⟩])
     (.cond (.tmp 33)
      (.seq (.region [
        ⟨(some 35), none, .act, .mv (.tmp 3)⟩,
        ⟨(some 36), none, .act, .buildSl 1 [(.int .u8 0)] 1 [(0, (.const (.int .u8 39)))]⟩,
        ⟨(some 37), none, .act, .append 1 1 [(.int .u8 0)] (.tmp 35) (.tmp 36)⟩,
        ⟨(some 3), none, .act, .mv (.tmp 37)⟩])
      (.seq (.seq (.region [
        ⟨(some 38), none, .act, .fieldAddr 1 (.tmp 5)⟩,
        ⟨(some 39), none, .act, .load false 1 (.tmp 38)⟩,
        ⟨(some 40), none, .act, .toBytes (.tmp 39)⟩,
        ⟨(some 41), none, .act, .len (.tmp 40)⟩,
        ⟨(some 42), none, .act, .mv (.const (.int .i64 0))⟩])
      (.block 3
       (.loop r46l1)))
      (.region [
        ⟨(some 57), none, .act, .mv (.tmp 3)⟩,
        ⟨(some 58), none, .act, .buildSl 1 [(.int .u8 0)] 1 [(0, (.const (.int .u8 39)))]⟩,
        ⟨(some 59), none, .act, .append 1 1 [(.int .u8 0)] (.tmp 57) (.tmp 58)⟩,
        ⟨(some 3), none, .act, .mv (.tmp 59)⟩])))
      (.region [
        ⟨(some 22), none, .act, .mv (.tmp 3)⟩,
        ⟨(some 23), none, .act, .fieldAddr 1 (.tmp 5)⟩,
        ⟨(some 24), none, .act, .load false 1 (.tmp 23)⟩,
        ⟨(some 25), none, .act, .append 1 1 [(.int .u8 0)] (.tmp 22) (.tmp 24)⟩,
        ⟨(some 3), none, .act, .mv (.tmp 25)⟩]))))))))))
  (.region [
    ⟨(some 60), none, .act, .bin .add (.tmp 10) (.const (.int .i64 1))⟩,
    ⟨(some 10), none, .act, .mv (.tmp 60)⟩]))))
def r46 : RCode :=
  (.seq (.region [
    ⟨(some 2), none, .act, .mv (.const (.string ⟨#[]⟩))⟩])
  (.seq (.region [
    ⟨(some 3), none, .act, .mv (.const (.slice none 0 0))⟩])
  (.seq (.seq (.region [
    ⟨(some 8), none, .act, .mv (.tmp 0)⟩,
    ⟨(some 9), none, .act, .len (.tmp 8)⟩,
    ⟨(some 10), none, .act, .mv (.const (.int .i64 0))⟩])
  (.block 0
   (.loop r46l0)))
  (.seq (.region [
    ⟨(some 61), none, .act, .mv (.tmp 3)⟩,
    ⟨(some 62), none, .act, .toStr (.tmp 61)⟩,
    ⟨(some 2), none, .act, .mv (.tmp 62)⟩])
  .ret))))
theorem res46 : ∃ c, Try.f46.body = some c ∧ resCode Try.prog 63 c = some r46 := ⟨_, rfl, by kernel_rfl⟩
theorem rr46 : resRes Try.prog Try.f46.results.toList = some [.tmp 2] := by kernel_rfl
theorem put11_quote (s : List UInt8) (hl : s.length ≤ 1000000) (acc : List UInt8) (hacc : acc.length ≤ 3000000000) (h₀ : AHeap) (k : List RT) (Q : AV → AHeap → Prop) (x8 x9 x10 : AV)
    (hk : ∀ c h, Grow h₀ h c → RRun Try.prog Try.f46 63 k (Env.get [(3, .sl 1 (Go.Av.byteCells (acc ++ dbl s)) c), (8, x8), (9, x9), (10, x10)]) h Q) : ∀ (m i : Nat) (c : Cap) (h : AHeap), i + m = s.length → Grow h₀ h c →
    RRun Try.prog Try.f46 63 (.inLoop r46l1 :: .inBlock 3 :: k) (Env.get [(3, .sl 1 (Go.Av.byteCells (acc ++ dbl (s.take i))) c), (40, .sl 1 (Go.Av.byteCells s) .ro), (41, i64 s.length), (42, i64 i), (8, x8), (9, x9), (10, x10)]) h Q := by
  have hla : (Go.Av.byteCells s).length = s.length := by simp [Go.Av.byteCells]
  intro m
  induction m with
  | zero =>
    intro i c h hi hg
    refine RRun.inLoop ?_
    repeat' (first | refine S.nilK ?_ | (refine S.op rfl ?_; first | ((first | refine S.lss rfl rfl ?_ ?_) <;> intro hlt <;> try (exfalso; omega))) | refine S.seq ?_ | refine S.region ?_ | refine S.condF rfl ?_ | refine RRun.exit rfl ?_)
    rw [List.take_of_length_le (by omega)]
    exact S.keep [3, 8, 9, 10] rfl (hk c h hg)
  | succ m ih =>
    intro i c h hi hg
    have hlt : i < s.length := by omega
    obtain ⟨q, hq⟩ : ∃ q, s[i]? = some q := ⟨s[i], List.getElem?_eq_getElem hlt⟩
    have hga : (Go.Av.byteCells s)[((i : Nat) : Int).toNat]? = some [u8 q] := by simp only [Int.toNat_natCast, Go.Av.byteCells, List.getElem?_map, hq]; rfl
    have hdl := dbl_len (s.take i)
    have htl : (s.take i).length = i := by simp; omega
    have htk : s.take (i + 1) = s.take i ++ [q] := by rw [List.take_add_one, hq]; rfl
    have ih' := fun c h => ih (i + 1) c h (by omega)
    rw [htk, dbl_app, ← List.append_assoc] at ih'
    have hal : (acc ++ dbl (s.take i)).length ≤ 3100000000 := by rw [List.length_append]; omega
    generalize acc ++ dbl (s.take i) = A at ih' hal ⊢
    by_cases hq2 : q = 39
    · have hq3 : q.toNat = 39 := by rw [hq2]; rfl
      have hd : dbl [q] = [q] ++ [q] := by rw [hq2]; rfl
      rw [hd, ← List.append_assoc] at ih'
      refine RRun.inLoop ?_
      repeat' (first | refine S.nilK ?_ | (refine S.op rfl ?_; first | refine R.indexAddr (cc := .ro) (es := Go.Av.byteCells s) rfl rfl (by omega) hga ?_ | refine R.mv rfl ?_ | refine R.loadR rfl rfl ?_ | refine R.buildSl rfl rfl rfl (by decide) ?_ | ((first | refine S.lss rfl rfl ?_ ?_) <;> intro hlt <;> try (exfalso; omega))) | refine S.seq ?_ | refine S.region ?_ | refine S.condT rfl ?_ | refine RRun.skip ?_ | refine RRun.block ?_)
      refine S.op rfl (S.appBytes (ys := [q]) rfl hg rfl rfl (.sl _ _) (by simp only [List.length_cons, List.length_nil]; omega) (fun c1 h1 g1 _ => ?_))
      repeat' (first | refine S.nilK ?_ | (refine S.op rfl ?_; first | refine R.mv rfl ?_ | refine R.buildSl rfl rfl rfl (by decide) ?_ | ((first | refine S.eqInt rfl rfl ?_ ?_) <;> intro hlt <;> try (exfalso; omega))) | refine S.seq ?_ | refine S.region ?_ | refine S.condT rfl ?_)
      refine S.op rfl (S.appBytes (ys := [q]) rfl g1 rfl rfl (.sl _ _) (by simp only [List.length_cons, List.length_nil, List.length_append]; omega) (fun c2 h2 g2 _ => ?_))
      repeat' (first | refine S.nilK ?_ | (refine S.op rfl ?_; first | refine R.mv rfl ?_ | refine S.addI rfl rfl (by omega) ?_) | refine S.region ?_ | refine RRun.inBlock ?_)
      rw [show ((i : Int) + 1) = ((i + 1 : Nat) : Int) by omega]
      exact S.keep [3, 40, 41, 42, 8, 9, 10] rfl (ih' c2 h2 g2)
    · have hq3 : q.toNat ≠ 39 := fun e => hq2 (UInt8.toNat_inj.1 e)
      have hd : dbl [q] = [q] := by simp [dbl, hq2]
      rw [hd] at ih'
      refine RRun.inLoop ?_
      repeat' (first | refine S.nilK ?_ | (refine S.op rfl ?_; first | refine R.indexAddr (cc := .ro) (es := Go.Av.byteCells s) rfl rfl (by omega) hga ?_ | refine R.mv rfl ?_ | refine R.loadR rfl rfl ?_ | refine R.buildSl rfl rfl rfl (by decide) ?_ | ((first | refine S.lss rfl rfl ?_ ?_) <;> intro hlt <;> try (exfalso; omega))) | refine S.seq ?_ | refine S.region ?_ | refine S.condT rfl ?_ | refine RRun.skip ?_ | refine RRun.block ?_)
      refine S.op rfl (S.appBytes (ys := [q]) rfl hg rfl rfl (.sl _ _) (by simp only [List.length_cons, List.length_nil]; omega) (fun c1 h1 g1 _ => ?_))
      repeat' (first | refine S.nilK ?_ | (refine S.op rfl ?_; first | refine R.mv rfl ?_ | refine S.addI rfl rfl (by omega) ?_ | ((first | refine S.eqInt rfl rfl ?_ ?_) <;> intro hlt <;> try (exfalso; omega))) | refine S.seq ?_ | refine S.region ?_ | refine S.condF rfl ?_ | refine RRun.skip ?_ | refine RRun.inBlock ?_)
      rw [show ((i : Int) + 1) = ((i + 1 : Nat) : Int) by omega]
      exact S.keep [3, 40, 41, 42, 8, 9, 10] rfl (ih' c1 h1 g1)
end Go.Proofs.Ytdinnoejipmiiaa

namespace Go.Proofs.Ytdinnoejipmiiaa
open Go.Av
def r46s : RCode :=
  (.seq (.region [
     ⟨(some 20), none, .act, .fieldAddr 0 (.tmp 5)⟩,
     ⟨(some 21), none, .act, .load false 1 (.tmp 20)⟩])
   (.block 2
    (.seq (.region [
      ⟨(some 27), none, .act, .eq false .int (.tmp 21) (.const (.int .i64 2))⟩,
      ⟨(some 26), none, .act, .mv (.tmp 27)⟩])
    (.cond (.tmp 26)
     (.region [
       ⟨(some 28), none, .act, .mv (.tmp 3)⟩,
       ⟨(some 29), none, .act, .fieldAddr 2 (.tmp 5)⟩,
       ⟨(some 30), none, .act, .load false 1 (.tmp 29)⟩,
       ⟨(some 31), none, .act, .call 60 [(.tmp 30)]⟩,
       ⟨(some 32), none, .act, .append 1 1 [(.int .u8 0)] (.tmp 28) (.tmp 31)⟩,
       ⟨(some 3), none, .act, .mv (.tmp 32)⟩])
     (.seq (.region [
       ⟨(some 34), none, .act, .eq false .int (.tmp 21) (.const (.int .i64 3))⟩,
       ⟨(some 33), none, .act, .mv (.tmp 34)⟩])
     (.cond (.tmp 33)
      (.seq (.region [
        ⟨(some 35), none, .act, .mv (.tmp 3)⟩,
        ⟨(some 36), none, .act, .buildSl 1 [(.int .u8 0)] 1 [(0, (.const (.int .u8 39)))]⟩,
        ⟨(some 37), none, .act, .append 1 1 [(.int .u8 0)] (.tmp 35) (.tmp 36)⟩,
        ⟨(some 3), none, .act, .mv (.tmp 37)⟩])
      (.seq (.seq (.region [
        ⟨(some 38), none, .act, .fieldAddr 1 (.tmp 5)⟩,
        ⟨(some 39), none, .act, .load false 1 (.tmp 38)⟩,
        ⟨(some 40), none, .act, .toBytes (.tmp 39)⟩,
        ⟨(some 41), none, .act, .len (.tmp 40)⟩,
        ⟨(some 42), none, .act, .mv (.const (.int .i64 0))⟩])
      (.block 3
       (.loop r46l1)))
      (.region [
        ⟨(some 57), none, .act, .mv (.tmp 3)⟩,
        ⟨(some 58), none, .act, .buildSl 1 [(.int .u8 0)] 1 [(0, (.const (.int .u8 39)))]⟩,
        ⟨(some 59), none, .act, .append 1 1 [(.int .u8 0)] (.tmp 57) (.tmp 58)⟩,
        ⟨(some 3), none, .act, .mv (.tmp 59)⟩])))
      (.region [
        ⟨(some 22), none, .act, .mv (.tmp 3)⟩,
        ⟨(some 23), none, .act, .fieldAddr 1 (.tmp 5)⟩,
        ⟨(some 24), none, .act, .load false 1 (.tmp 23)⟩,
        ⟨(some 25), none, .act, .append 1 1 [(.int .u8 0)] (.tmp 22) (.tmp 24)⟩,
        ⟨(some 3), none, .act, .mv (.tmp 25)⟩])))))))
theorem put11_switch (kind n pos : Int) (s : List UInt8) (hl : s.length ≤ 1000000) (hf : Fits n) (acc : List UInt8) (hacc : acc.length ≤ 2500000000) (h₀ h : AHeap) (c : Cap) (hg : Grow h₀ h c) (p : Nat) (hp : h p = some (.box [i64 kind, str s, i64 n, i64 pos])) (k : List RT) (Q : AV → AHeap → Prop) (x8 x9 x10 : AV)
    (hk : ∀ c h, Grow h₀ h c → RRun Try.prog Try.f46 63 k (Env.get [(3, .sl 1 (Go.Av.byteCells (acc ++ tokText ⟨kind, s, n, pos⟩)) c), (8, x8), (9, x9), (10, x10)]) h Q) :
    RRun Try.prog Try.f46 63 (.code r46s :: k) (Env.get [(3, .sl 1 (Go.Av.byteCells acc) c), (5, ptr p), (8, x8), (9, x9), (10, x10)]) h Q := by
  unfold r46s
  by_cases h2 : kind = 2
  · have ht : tokText ⟨kind, s, n, pos⟩ = numB n := by simp [tokText, h2]
    have hnl := numB_len hf
    rw [ht] at hk
    repeat' (first | refine S.nilK ?_ | (refine S.op rfl ?_; first | refine callS rfl rfl (digits_spec n hf _) ?_ | refine R.mv rfl ?_ | refine R.fieldAddr rfl ?_ | refine R.load (by decide) rfl (by (repeat' (first | assumption)); first | done | fail) rfl ?_ | ((first | refine S.eqInt rfl rfl ?_ ?_) <;> intro hlt <;> try (exfalso; omega))) | refine S.seq ?_ | refine S.region ?_ | refine S.condT rfl ?_ | refine RRun.block ?_)
    refine S.op rfl (S.appBytes (ys := numB n) rfl hg rfl rfl (.sl _ _) (by omega) (fun c1 h1 g1 _ => ?_))
    repeat' (first | refine S.nilK ?_ | (refine S.op rfl ?_; first | refine R.mv rfl ?_) | refine RRun.inBlock ?_)
    exact S.keep [3, 8, 9, 10] rfl (hk c1 h1 g1)
  · by_cases h3 : kind = 3
    · have ht : tokText ⟨kind, s, n, pos⟩ = [39] ++ dbl s ++ [39] := by simp [tokText, h2, h3]
      have hdl := dbl_len s
      rw [ht, ← List.append_assoc, ← List.append_assoc] at hk
      repeat' (first | refine S.nilK ?_ | (refine S.op rfl ?_; first | refine R.mv rfl ?_ | refine R.fieldAddr rfl ?_ | refine R.load (by decide) rfl (by (repeat' (first | assumption)); first | done | fail) rfl ?_ | refine R.buildSl rfl rfl rfl (by decide) ?_ | ((first | refine S.eqInt rfl rfl ?_ ?_) <;> intro hlt <;> try (exfalso; omega))) | refine S.seq ?_ | refine S.region ?_ | refine S.condT rfl ?_ | refine S.condF rfl ?_ | refine RRun.block ?_)
      refine S.op rfl (S.appBytes (ys := [39]) rfl hg rfl rfl (.sl _ _) (by simp only [List.length_cons, List.length_nil]; omega) (fun c1 h1 g1 q1 => ?_))
      have hp1 := q1 _ _ hp
      have hla : (Go.Av.byteCells s).length = s.length := by simp [Go.Av.byteCells]
      repeat' (first | refine S.nilK ?_ | (refine S.op rfl ?_; first | refine S.toBytesS rfl (by simp only [maxLen]; omega) ?_ | refine R.mv rfl ?_ | refine R.fieldAddr rfl ?_ | refine R.load (by decide) rfl (by (repeat' (first | assumption)); first | done | fail) rfl ?_ | refine R.len rfl ?_) | refine S.seq ?_ | refine S.region ?_ | refine RRun.block ?_)
      rw [hla]
      have e0 : acc ++ [39] = (acc ++ [39]) ++ dbl (s.take 0) := by simp [dbl]
      refine RRun.loopIn (S.keep [3, 40, 41, 42, 8, 9, 10] (l' := [(3, .sl 1 (Go.Av.byteCells (acc ++ [39])) c1), (40, .sl 1 (Go.Av.byteCells s) .ro), (41, i64 s.length), (42, i64 (0 : Nat)), (8, x8), (9, x9), (10, x10)]) rfl ?_)
      rw [e0]
      refine put11_quote s hl (acc ++ [39]) (by simp only [List.length_append, List.length_cons, List.length_nil]; omega) h₀ _ _ x8 x9 x10 ?_ s.length 0 c1 h1 (by omega) g1
      intro c2 h2 g2
      repeat' (first | (refine S.op rfl ?_; first | refine R.mv rfl ?_ | refine R.buildSl rfl rfl rfl (by decide) ?_) | refine S.region ?_)
      refine S.op rfl (S.appBytes (ys := [39]) rfl g2 rfl rfl (.sl _ _) (by simp only [List.length_cons, List.length_nil, List.length_append]; omega) (fun c3 h3 g3 _ => ?_))
      repeat' (first | refine S.nilK ?_ | (refine S.op rfl ?_; first | refine R.mv rfl ?_) | refine RRun.inBlock ?_)
      exact S.keep [3, 8, 9, 10] rfl (hk c3 h3 g3)
    · have ht : tokText ⟨kind, s, n, pos⟩ = s := by simp [tokText, h2, h3]
      rw [ht] at hk
      repeat' (first | refine S.nilK ?_ | (refine S.op rfl ?_; first | refine R.mv rfl ?_ | refine R.fieldAddr rfl ?_ | refine R.load (by decide) rfl (by (repeat' (first | assumption)); first | done | fail) rfl ?_ | ((first | refine S.eqInt rfl rfl ?_ ?_) <;> intro hlt <;> try (exfalso; omega))) | refine S.seq ?_ | refine S.region ?_ | refine S.condF rfl ?_ | refine RRun.block ?_)
      refine S.op rfl (S.appBytes (ys := s) rfl hg rfl rfl (srcStr s) (by omega) (fun c1 h1 g1 _ => ?_))
      repeat' (first | refine S.nilK ?_ | (refine S.op rfl ?_; first | refine R.mv rfl ?_) | refine RRun.inBlock ?_)
      exact S.keep [3, 8, 9, 10] rfl (hk c1 h1 g1)
theorem put11_loop (ts : List Tok) (hp : Puts ts) (h₀ : AHeap) (k : List RT) (Q : AV → AHeap → Prop)
    (hk : ∀ c h, Grow h₀ h c → RRun Try.prog Try.f46 63 k (Env.get [(3, .sl 1 (Go.Av.byteCells (putT ts)) c)]) h Q) : ∀ (m j : Nat) (c : Cap) (h : AHeap), j + m = ts.length → Grow h₀ h c →
    RRun Try.prog Try.f46 63 (.inLoop r46l0 :: .inBlock 0 :: k) (Env.get [(3, .sl 1 (Go.Av.byteCells (putT (ts.take j))) c), (8, toksA ts .ro), (9, i64 ts.length), (10, i64 j)]) h Q := by
  have hla : (ts.map Pa.Tok.cells).length = ts.length := by simp
  have hl1 := hp.1
  intro m
  induction m with
  | zero =>
    intro j c h hj hg
    refine RRun.inLoop ?_
    repeat' (first | refine S.nilK ?_ | (refine S.op rfl ?_; first | ((first | refine S.lss rfl rfl ?_ ?_) <;> intro hlt <;> try (exfalso; omega))) | refine S.seq ?_ | refine S.region ?_ | refine S.condF rfl ?_ | refine RRun.exit rfl ?_)
    rw [List.take_of_length_le (by omega)]
    exact S.keep [3] rfl (hk c h hg)
  | succ m ih =>
    intro j c h hj hg
    have hlt : j < ts.length := by omega
    obtain ⟨⟨kind, s, n, pos⟩, ht⟩ : ∃ t, ts[j]? = some t := ⟨ts[j], List.getElem?_eq_getElem hlt⟩
    have hga : (ts.map Pa.Tok.cells)[((j : Nat) : Int).toNat]? = some [i64 kind, str s, i64 n, i64 pos] := by simp only [Int.toNat_natCast, List.getElem?_map, ht]; rfl
    have hmem := hp.2 _ (List.mem_of_getElem? ht)
    have ih' := fun c h => ih (j + 1) c h (by omega)
    rw [putT_take ht] at ih'
    have hpl := putT_len hp j (by omega)
    have hpb : (putT (ts.take j)).length ≤ 2100000000 := by omega
    have hs1 := hmem.1
    simp only at hs1
    generalize putT (ts.take j) = acc at ih' hpb ⊢
    clear hpl
    refine RRun.inLoop ?_
    unfold toksA
    by_cases hj0 : j = 0
    · subst hj0
      rw [if_neg (by omega), List.append_nil] at ih'
      repeat' (first | ((show RRun Try.prog Try.f46 63 (.code r46s :: _) _ _ _; refine S.keep [3, 5, 8, 9, 10] rfl (put11_switch kind n pos s hs1 hmem.2 acc (by omega) h₀ _ c (hg.base _ hb) _ (AHeap.set_same _ _ _) _ _ _ _ _ (fun c1 h1 g1 => ?_)))) | refine S.nilK ?_ | (refine S.op rfl ?_; first | refine R.indexAddr (cc := .ro) (es := ts.map Pa.Tok.cells) rfl rfl (by omega) hga ?_ | refine R.mv rfl ?_ | refine R.loadR rfl rfl ?_ | refine S.addI rfl rfl (by omega) ?_ | refine R.alloc rfl (fun b hb => ?_) | ((first | refine S.lss rfl rfl ?_ ?_ | refine S.gtr rfl rfl ?_ ?_) <;> intro hlt <;> try (exfalso; omega))) | (refine S.op0 rfl ?_; first | refine S.storeS rfl rfl rfl (by rfl) rfl (by first | decide | exact Nat.le_refl _ | exact Nat.le_of_ble_eq_true rfl) ?_) | refine S.seq ?_ | refine S.region ?_ | refine S.condT rfl ?_ | refine S.condF rfl ?_ | refine RRun.skip ?_ | refine RRun.block ?_ | refine RRun.inBlock ?_)
      exact S.keep [3, 8, 9, 10] rfl (ih' c1 h1 g1)
    · have hjp : 0 < j := by omega
      rw [if_pos hjp] at ih'
      repeat' (first | refine S.nilK ?_ | (refine S.op rfl ?_; first | refine R.indexAddr (cc := .ro) (es := ts.map Pa.Tok.cells) rfl rfl (by omega) hga ?_ | refine R.mv rfl ?_ | refine R.loadR rfl rfl ?_ | refine R.alloc rfl (fun b hb => ?_) | refine R.buildSl rfl rfl rfl (by decide) ?_ | ((first | refine S.lss rfl rfl ?_ ?_ | refine S.gtr rfl rfl ?_ ?_) <;> intro hlt <;> try (exfalso; omega))) | (refine S.op0 rfl ?_; first | refine S.storeS rfl rfl rfl (by rfl) rfl (by first | decide | exact Nat.le_refl _ | exact Nat.le_of_ble_eq_true rfl) ?_) | refine S.seq ?_ | refine S.region ?_ | refine S.condT rfl ?_ | refine RRun.skip ?_ | refine RRun.block ?_)
      refine S.op rfl (S.appBytes (ys := [32]) rfl (hg.base _ hb) rfl rfl (.sl _ _) (by simp only [List.length_cons, List.length_nil]; omega) (fun c1 h1 g1 q1 => ?_))
      have hp1 := q1 _ _ (AHeap.set_same _ _ _)
      repeat' (first | ((show RRun Try.prog Try.f46 63 (.code r46s :: _) _ _ _; refine S.keep [3, 5, 8, 9, 10] rfl (put11_switch kind n pos s hs1 hmem.2 (acc ++ [32]) (by simp only [List.length_append, List.length_cons, List.length_nil]; omega) h₀ _ c1 g1 _ hp1 _ _ _ _ _ (fun c2 h2 g2 => ?_)))) | refine S.nilK ?_ | (refine S.op rfl ?_; first | refine R.mv rfl ?_ | refine S.addI rfl rfl (by omega) ?_) | refine S.region ?_ | refine RRun.inBlock ?_)
      rw [show ((j : Int) + 1) = ((j + 1 : Nat) : Int) by omega]
      exact S.keep [3, 8, 9, 10] rfl (ih' c2 h2 g2)
theorem put11_spec (ts : List Tok) (hp : Puts ts) (h : AHeap) : ACalls Try.prog 46 [toksA ts .ro] h (fun x h' => x = str (putT ts) ∧ h' = h) := by
  obtain ⟨c, hc1, hc2⟩ := res46
  refine ACalls.weak (ACalls.enter Try.func46 hc1 Try.ntmps46 hc2 (Nat.le_of_ble_eq_true rfl) rfl ?_)
  have hl1 := hp.1
  have hla : (ts.map Pa.Tok.cells).length = ts.length := by simp
  unfold toksA
  repeat' (first | refine S.nilK ?_ | (refine S.op rfl ?_; first | refine R.mv rfl ?_ | refine R.len rfl ?_) | refine S.seq ?_ | refine S.region ?_ | refine RRun.block ?_)
  rw [hla]
  refine RRun.loopIn (S.keep [3, 8, 9, 10] rfl (RRun.envs (.cons 3 (.nilSl 1 (c := .full) trivial) (.cons _ (.refl _) (.cons _ (.refl _) (.cons _ (.refl _) .nil)))) (put11_loop ts hp h _ _ (fun c1 h1 g1 => ?_) ts.length 0 .full h (by omega) (.of_le (.refl _)))))
  repeat' (first | refine S.nilK ?_ | (refine S.op rfl ?_; first | refine S.toStrS rfl ?_ | refine R.mv rfl ?_) | refine S.seq ?_ | refine S.region ?_)
  apply S.ret rr46
  case hx => repeat (first | exact ResAt.nil | apply ResAt.tmp rfl)
  exact ⟨str (putT ts), h, .refl _, g1.le, rfl, rfl⟩
end Go.Proofs.Ytdinnoejipmiiaa

namespace Go.Proofs.Ytdinnoejipmiiaa
open Go.Av
abbrev bysC (l : List UInt8) (c : Cap) : AV := .sl 1 (Go.Av.byteCells l) c
def WAt (h₀ : AHeap) (p : Nat) (acc : List UInt8) (h : AHeap) : Prop :=
  ∃ c, h p = some (.box [bysC acc c]) ∧ OwnT h c ∧ h₀ p = none ∧ (∀ x, TokC c x → h₀ x = none) ∧ ¬ TokC c p ∧ ∀ x o, h₀ x = some o → h x = some o
theorem one_bytes (ys : List UInt8) : ∀ e ∈ Go.Av.byteCells ys, ∀ a ∈ e, a.one = true := by
  intro e he a ha
  simp only [Go.Av.byteCells, List.mem_map] at he
  obtain ⟨u, _, rfl⟩ := he
  simp only [byteCell, List.mem_singleton] at ha
  subst ha; rfl
theorem S.wapp {P : Program} {c : Cls} {E : AEnv} {h₀ h : AHeap} {K : AV → AHeap → Prop} {zero : List Value} {x y : Operand} {s : AV} {acc ys : List UInt8} {c0 : Cap} {p : Nat} (hc : c = .act) (hp : h p = some (.box [bysC acc c0])) (ho : OwnT h c0) (h0p : h₀ p = none) (h0t : ∀ x, TokC c0 x → h₀ x = none) (hpt : ¬ TokC c0 p) (hb : ∀ x o, h₀ x = some o → h x = some o)
    (hx : aev E x = some (bysC acc c0)) (hy : aev E y = some s) (hs : Go.Av.Src 1 s (Go.Av.byteCells ys)) (hlen : acc.length + ys.length ≤ 4000000000000)
    (hk : ∀ c' h', h' p = some (.box [bysC acc c0]) → (WAt h₀ p (acc ++ ys) (h'.set p (.box [bysC (acc ++ ys) c']))) → K (bysC (acc ++ ys) c') h') : ROpS P c (.append 1 1 zero x y) E h K := by
  refine S.appendT hc ho hx (.sl _ _) hy hs (one_bytes ys) ?_ ?_ (fun c' h' g1 g2 g3 => ?_)
  · simp only [Go.Av.byteCells, List.length_map]; omega
  · simp only [Go.Av.byteCells, List.length_map]; omega
  · have hp' := g2 p _ hp hpt
    have hpt' : ¬ TokC c' p := fun ⟨u, s', e⟩ => by
      rcases g1 with e3 | ⟨b', u', s2, e3, e4⟩
      · rw [e3] at e; cases e
      · rw [e3] at e; cases e; rw [hp'] at e4; cases e4
    have hnone : ∀ x, h x = none → h₀ x = none := fun x e => by
      cases e0 : h₀ x with
      | none => rfl
      | some o => rw [hb x o e0] at e; cases e
    have := hk c' h' hp' ⟨c', AHeap.set_same _ _ _, ownT_loc g1 fun x hx => AHeap.set_other _ _ (by rintro rfl; exact hpt' hx), h0p, fun x hx => (g3 x hx).elim (h0t x) (hnone x), hpt', fun x o e => by
      have hxp : x ≠ p := by rintro rfl; rw [h0p] at e; cases e
      rw [AHeap.set_other _ _ hxp]
      exact g2 x o (hb x o e) (fun ht => by rw [h0t x ht] at e; cases e)⟩
    simpa [bysC, Go.Av.byteCells] using this
theorem WAt.start {h : AHeap} {p : Nat} (hp : h p = none) : WAt h p [] (h.set p (.box [bysC [] .full])) :=
  ⟨.full, AHeap.set_same _ _ _, .inl rfl, hp, (fun x ⟨u, s, e⟩ => by cases e), (fun ⟨u, s, e⟩ => by cases e), fun x o e => AHeap.get_fresh hp e⟩
theorem WAt.le {h₀ h : AHeap} {p : Nat} {acc : List UInt8} (hw : WAt h₀ p acc h) : h₀.le h := fun x o e => by
  obtain ⟨c, _, _, _, _, _, hb⟩ := hw
  exact ⟨o, hb x o e, .refl o⟩
theorem WAt.up {h₀ h : AHeap} {p : Nat} {acc : List UInt8} (hw : WAt h₀ p acc h) {b : Nat} {o : ABlk} (hb : h b = none) : WAt (h₀.set b o) p acc (h.set b o) := by
  obtain ⟨c, h1, h2, h3, h4, h5, h6⟩ := hw
  have hbp : p ≠ b := fun e => by subst e; rw [hb] at h1; cases h1
  have hbt : ∀ x, TokC c x → x ≠ b := fun x hx e => by subst e; exact ownT_own h2 x hx hb
  refine ⟨c, (AHeap.set_other _ _ hbp).trans h1, ownT_loc h2 fun x hx => AHeap.set_other _ _ (hbt x hx), (AHeap.set_other _ _ hbp).trans h3, fun x hx => (AHeap.set_other _ _ (hbt x hx)).trans (h4 x hx), h5, fun x y e => ?_⟩
  by_cases hx : x = b
  · subst hx; rw [AHeap.set_same] at e ⊢; exact e
  · rw [AHeap.set_other _ _ hx] at e ⊢; exact h6 x y e
theorem WAt.free {h₀ h : AHeap} {p : Nat} {acc : List UInt8} (hw : WAt h₀ p acc h) {b : Nat} (hb : h b = none) : h₀ b = none := by
  obtain ⟨c, h1, h2, h3, h4, h5, h6⟩ := hw
  cases e : h₀ b with
  | none => rfl
  | some o => rw [h6 b o e] at hb; cases hb
theorem WAt.down {h₀ h : AHeap} {p : Nat} {acc : List UInt8} {b : Nat} {o : ABlk} (hw : WAt (h₀.set b o) p acc h) (hb : h₀ b = none) : WAt h₀ p acc h := by
  obtain ⟨c, h1, h2, h3, h4, h5, h6⟩ := hw
  have up : ∀ x y, h₀ x = some y → (h₀.set b o) x = some y := fun x y e => by rw [AHeap.set_other _ _ (fun e' => by subst e'; rw [hb] at e; cases e)]; exact e
  have dn : ∀ x, (h₀.set b o) x = none → h₀ x = none := fun x e => by
    cases e' : h₀ x with
    | none => rfl
    | some y => rw [up x y e'] at e; cases e
  exact ⟨c, h1, h2, dn p h3, fun x hx => dn x (h4 x hx), h5, fun x y e => h6 x y (up x y e)⟩
theorem WAt.at {h₀ h : AHeap} {p : Nat} {acc : List UInt8} {b : Nat} {o : ABlk} (hw : WAt (h₀.set b o) p acc h) : h b = some o := by
  obtain ⟨c, h1, h2, h3, h4, h5, h6⟩ := hw
  exact h6 b o (AHeap.set_same _ _ _)
def put1 (acc s : List UInt8) : List UInt8 := (if 0 < acc.length then acc ++ [32] else acc) ++ s
def putL (acc : List UInt8) (l : List (List UInt8)) : List UInt8 := l.foldl put1 acc
theorem putL_app (acc : List UInt8) (a b : List (List UInt8)) : putL acc (a ++ b) = putL (putL acc a) b := List.foldl_append ..
def sumL (l : List (List UInt8)) : Nat := (l.map fun s => s.length + 1).sum
theorem sumL_app (a b : List (List UInt8)) : sumL (a ++ b) = sumL a + sumL b := by simp [sumL]
theorem putL_len : ∀ (l : List (List UInt8)) (acc : List UInt8), (putL acc l).length ≤ acc.length + sumL l
  | [], acc => Nat.le_refl _
  | s :: l, acc => by
    have := putL_len l (put1 acc s)
    have h1 : (put1 acc s).length ≤ acc.length + s.length + 1 := by unfold put1; split <;> simp <;> omega
    show (putL (put1 acc s) l).length ≤ _
    simp only [sumL, List.map_cons, List.sum_cons] at this ⊢
    omega
def r23l0 : RCode :=
  (.seq (.region [
    ⟨(some 9), none, .act, .bin .lss (.tmp 8) (.tmp 7)⟩])
  (.seq (.cond (.tmp 9)
   .skip
   (.exit 0))
  (.seq (.block 1
   (.seq (.region [
     ⟨(some 10), none, .act, .indexAddr 1 (.tmp 6) (.tmp 8)⟩,
     ⟨(some 11), none, .act, .load false 1 (.tmp 10)⟩,
     ⟨(some 5), none, .act, .mv (.tmp 11)⟩])
   (.seq (.seq (.region [
     ⟨(some 12), none, .act, .mv (.tmp 0)⟩,
     ⟨(some 13), none, .act, .nilCheck (.tmp 12)⟩,
     ⟨(some 14), none, .act, .fieldAddr 0 (.tmp 13)⟩,
     ⟨(some 15), none, .act, .load false 1 (.tmp 14)⟩,
     ⟨(some 16), none, .act, .len (.tmp 15)⟩,
     ⟨(some 17), none, .act, .bin .gtr (.tmp 16) (.const (.int .i64 0))⟩])
   (.cond (.tmp 17)
    (.region [
      ⟨(some 18), none, .act, .mv (.tmp 0)⟩,
      ⟨(some 19), none, .act, .mv (.tmp 0)⟩,
      ⟨(some 20), none, .act, .nilCheck (.tmp 19)⟩,
      ⟨(some 21), none, .act, .fieldAddr 0 (.tmp 20)⟩,
      ⟨(some 22), none, .act, .load false 1 (.tmp 21)⟩,
      ⟨(some 23), none, .act, .buildSl 1 [(.int .u8 0)] 1 [(0, (.const (.int .u8 32)))]⟩,
      ⟨(some 24), none, .act, .append 1 1 [(.int .u8 0)] (.tmp 22) (.tmp 23)⟩,
      ⟨(some 25), none, .act, .nilCheck (.tmp 18)⟩,
      ⟨(some 26), none, .act, .fieldAddr 0 (.tmp 25)⟩,
      ⟨none, none, .act, .store 1 (.tmp 26) (.tmp 24)⟩])
    .skip))
   (.region [
     ⟨(some 27), none, .act, .mv (.tmp 0)⟩,
     ⟨(some 28), none, .act, .mv (.tmp 0)⟩,
     ⟨(some 29), none, .act, .nilCheck (.tmp 28)⟩,
     ⟨(some 30), none, .act, .fieldAddr 0 (.tmp 29)⟩,
     ⟨(some 31), none, .act, .load false 1 (.tmp 30)⟩,
     ⟨(some 32), none, .act, .mv (.tmp 5)⟩,
     ⟨(some 33), none, .act, .append 1 1 [(.int .u8 0)] (.tmp 31) (.tmp 32)⟩,
     ⟨(some 34), none, .act, .nilCheck (.tmp 27)⟩,
     ⟨(some 35), none, .act, .fieldAddr 0 (.tmp 34)⟩,
     ⟨none, none, .act, .store 1 (.tmp 35) (.tmp 33)⟩]))))
  (.region [
    ⟨(some 36), none, .act, .bin .add (.tmp 8) (.const (.int .i64 1))⟩,
    ⟨(some 8), none, .act, .mv (.tmp 36)⟩]))))
def r23 : RCode :=
  (.seq (.region [
    ⟨(some 6), none, .act, .mv (.tmp 1)⟩,
    ⟨(some 7), none, .act, .len (.tmp 6)⟩,
    ⟨(some 8), none, .act, .mv (.const (.int .i64 0))⟩])
  (.block 0
   (.loop r23l0)))
theorem res23 : ∃ c, Try.f23.body = some c ∧ resCode Try.prog 37 c = some r23 := ⟨_, rfl, by kernel_rfl⟩
theorem rr23 : resRes Try.prog Try.f23.results.toList = some [] := by kernel_rfl
theorem putw_loop (l : List (List UInt8)) (hl : l.length ≤ 100) (c : Cap) (p : Nat) (h₀ : AHeap) (acc : List UInt8) (hacc : acc.length + sumL l ≤ 1000000000000) : ∀ (m i : Nat) (h : AHeap), i + m = l.length → WAt h₀ p (putL acc (l.take i)) h →
    RRun Try.prog Try.f23 37 (.inLoop r23l0 :: .inBlock 0 :: []) (Env.get [(0, ptr p), (6, strsA l c), (7, i64 l.length), (8, i64 i)]) h (fun _ h' => WAt h₀ p (putL acc l) h') := by
  intro m
  induction m with
  | zero =>
    intro i h hi hw
    rw [List.take_of_length_le (by omega)] at hw
    refine RRun.inLoop ?_
    repeat' (first | refine S.nilK ?_ | (refine S.op rfl ?_; first | ((first | refine S.lss rfl rfl ?_ ?_) <;> intro hlt <;> try (exfalso; omega))) | refine S.seq ?_ | refine S.region ?_ | refine S.condF rfl ?_ | refine RRun.exit rfl ?_)
    apply S.done rr23
    case hx => repeat (first | exact ResAt.nil)
    exact hw
  | succ m ih =>
    intro i h hi hw
    have hie : i < l.length := by omega
    have h1 : (l.map fun s => [str s])[((i : Nat) : Int).toNat]? = some [str l[i]] := by simp [hie]
    have hnext : putL acc (l.take (i + 1)) = put1 (putL acc (l.take i)) l[i] := by
      rw [List.take_add_one, List.getElem?_eq_getElem hie, putL_app]; rfl
    have hlen : (putL acc (l.take i)).length + l[i].length + 1 ≤ 1000000000000 := by
      have h2 := putL_len (l.take i) acc
      have h3 : sumL l = sumL (l.take i) + sumL (l.drop i) := by rw [← sumL_app, List.take_append_drop]
      have h4 : sumL (l.drop i) = l[i].length + 1 + sumL (l.drop (i + 1)) := by rw [List.drop_eq_getElem_cons hie]; simp only [sumL, List.map_cons, List.sum_cons]
      omega
    have ih' := fun h => ih (i + 1) h (by omega)
    rw [hnext, show ((i + 1 : Nat) : Int) = (i : Int) + 1 by omega] at ih'
    generalize putL acc (l.take i) = b1 at *
    generalize l[i] = s at *
    refine RRun.inLoop ?_
    unfold strsA
    obtain ⟨c0, hp, ho, h0p, h0t, hpt, hb0⟩ := id hw
    have hlb : (Go.Av.byteCells b1).length = b1.length := by simp [Go.Av.byteCells]
    by_cases hz : 0 < b1.length
    · have e : put1 b1 s = b1 ++ [32] ++ s := by unfold put1; rw [if_pos hz]
      repeat' (first | refine S.nilK ?_ | (refine S.op rfl ?_; first | refine R.indexAddr rfl rfl (by omega) h1 ?_ | refine R.mv rfl ?_ | refine R.fieldAddr rfl ?_ | refine R.nilCheck rfl ?_ | refine R.loadR rfl rfl ?_ | refine R.load (by decide) rfl (by (repeat' (first | assumption)); first | done | fail) rfl ?_ | refine R.len rfl ?_ | refine R.buildSl rfl rfl rfl (by decide) ?_ | ((first | refine S.lss rfl rfl ?_ ?_ | refine S.gtr rfl rfl ?_ ?_) <;> intro hlt <;> try (exfalso; omega))) | refine S.seq ?_ | refine S.region ?_ | refine S.condT rfl ?_ | refine RRun.skip ?_ | refine RRun.block ?_)
      refine S.op rfl (S.wapp (ys := [32]) rfl hp ho h0p h0t hpt hb0 rfl rfl (.sl _ _) (by simp only [List.length_cons, List.length_nil]; omega) (fun c1 h1' hp1 hw1 => ?_))
      repeat' (first | refine S.nilK ?_ | (refine S.op rfl ?_; first | refine R.mv rfl ?_ | refine R.fieldAddr rfl ?_ | refine R.nilCheck rfl ?_ | refine R.load (by decide) rfl (by (repeat' (first | exact AHeap.set_same _ _ _)); first | done | fail) rfl ?_) | (refine S.op0 rfl ?_; first | refine S.store rfl rfl (by (repeat' (first | assumption)); first | done | fail) rfl rfl rfl (by rfl) rfl ?_) | refine S.region ?_)
      obtain ⟨c2, hp2, ho2, h0p2, h0t2, hpt2, hb2⟩ := id hw1
      rw [AHeap.set_same] at hp2
      cases hp2
      refine S.op rfl (S.wapp (ys := s) rfl (AHeap.set_same _ _ _) ho2 h0p2 h0t2 hpt2 hb2 rfl rfl (srcStr s) (by simp only [List.length_append, List.length_cons, List.length_nil]; omega) (fun c3 h3' hp3 hw3 => ?_))
      rw [← e] at hw3
      repeat' (first | refine S.nilK ?_ | (refine S.op rfl ?_; first | refine R.mv rfl ?_ | refine R.fieldAddr rfl ?_ | refine R.nilCheck rfl ?_ | refine S.addI rfl rfl (by omega) ?_) | (refine S.op0 rfl ?_; first | refine S.store rfl rfl (by (repeat' (first | assumption)); first | done | fail) rfl rfl rfl (by rfl) rfl ?_) | refine S.region ?_ | refine RRun.inBlock ?_)
      rw [← e]
      exact S.keep [0, 6, 7, 8] rfl (ih' _ hw3)
    · have e : put1 b1 s = b1 ++ s := by unfold put1; rw [if_neg hz]
      repeat' (first | refine S.nilK ?_ | (refine S.op rfl ?_; first | refine R.indexAddr rfl rfl (by omega) h1 ?_ | refine R.mv rfl ?_ | refine R.fieldAddr rfl ?_ | refine R.nilCheck rfl ?_ | refine R.loadR rfl rfl ?_ | refine R.load (by decide) rfl (by (repeat' (first | assumption)); first | done | fail) rfl ?_ | refine R.len rfl ?_ | ((first | refine S.lss rfl rfl ?_ ?_ | refine S.gtr rfl rfl ?_ ?_) <;> intro hlt <;> try (exfalso; omega))) | refine S.seq ?_ | refine S.region ?_ | refine S.condT rfl ?_ | refine S.condF rfl ?_ | refine RRun.skip ?_ | refine RRun.block ?_)
      refine S.op rfl (S.wapp (ys := s) rfl hp ho h0p h0t hpt hb0 rfl rfl (srcStr s) (by omega) (fun c3 h3' hp3 hw3 => ?_))
      rw [← e] at hw3
      repeat' (first | refine S.nilK ?_ | (refine S.op rfl ?_; first | refine R.mv rfl ?_ | refine R.fieldAddr rfl ?_ | refine R.nilCheck rfl ?_ | refine S.addI rfl rfl (by omega) ?_) | (refine S.op0 rfl ?_; first | refine S.store rfl rfl (by (repeat' (first | assumption)); first | done | fail) rfl rfl rfl (by rfl) rfl ?_) | refine S.region ?_ | refine RRun.inBlock ?_)
      rw [← e]
      exact S.keep [0, 6, 7, 8] rfl (ih' _ hw3)
theorem putw_spec (l : List (List UInt8)) (hl : l.length ≤ 100) (c : Cap) (p : Nat) (h₀ h : AHeap) (acc : List UInt8) (hacc : acc.length + sumL l ≤ 1000000000000) (hw : WAt h₀ p acc h) :
    ACalls Try.prog 23 [ptr p, strsA l c] h (fun _ h' => WAt h₀ p (putL acc l) h') := by
  obtain ⟨c', hc1, hc2⟩ := res23
  refine ACalls.enter Try.func23 hc1 Try.ntmps23 hc2 (Nat.le_of_ble_eq_true rfl) rfl ?_
  have hlen : (l.map fun s => [str s]).length = l.length := by simp
  unfold strsA
  repeat' (first | refine S.nilK ?_ | (refine S.op rfl ?_; first | refine R.mv rfl ?_ | refine R.len rfl ?_) | refine S.seq ?_ | refine S.region ?_ | refine RRun.block ?_)
  rw [hlen]
  exact RRun.loopIn (S.keep [0, 6, 7, 8] rfl (putw_loop l hl c p h₀ acc hacc l.length 0 h (by omega) hw))
def up1 (c : UInt8) : UInt8 := if 97 ≤ c.toNat ∧ c.toNat ≤ 122 then UInt8.ofNat (c.toNat - 32) else c
def upper (s : List UInt8) : List UInt8 := s.map up1
def r25l0 : RCode :=
  (.seq (.region [
    ⟨(some 11), none, .act, .bin .lss (.tmp 10) (.tmp 9)⟩])
  (.seq (.cond (.tmp 11)
   .skip
   (.exit 0))
  (.seq (.block 1
   (.seq (.region [
     ⟨(some 12), none, .act, .mv (.tmp 10)⟩,
     ⟨(some 13), none, .act, .indexAddr 1 (.tmp 8) (.tmp 10)⟩,
     ⟨(some 14), none, .act, .load false 1 (.tmp 13)⟩,
     ⟨(some 4), none, .act, .mv (.tmp 12)⟩,
     ⟨(some 5), none, .act, .mv (.tmp 14)⟩])
   (.seq (.region [
     ⟨(some 15), none, .act, .mv (.tmp 5)⟩,
     ⟨(some 16), none, .act, .bin .geq (.tmp 15) (.const (.int .u8 97))⟩,
     ⟨(some 17), none, .act, .mv (.tmp 16)⟩,
     ⟨(some 18), (some (17, true)), .act, .mv (.tmp 5)⟩,
     ⟨(some 19), (some (17, true)), .act, .bin .leq (.tmp 18) (.const (.int .u8 122))⟩,
     ⟨(some 20), none, .act, .pick (.tmp 17) (.tmp 19) (.const (.bool false))⟩])
   (.cond (.tmp 20)
    (.region [
      ⟨(some 21), none, .act, .mv (.tmp 3)⟩,
      ⟨(some 22), none, .act, .mv (.tmp 4)⟩,
      ⟨(some 23), none, .act, .mv (.tmp 5)⟩,
      ⟨(some 24), none, .act, .bin .sub (.tmp 23) (.const (.int .u8 97))⟩,
      ⟨(some 25), none, .act, .bin .add (.tmp 24) (.const (.int .u8 65))⟩,
      ⟨(some 26), none, .act, .indexAddr 1 (.tmp 21) (.tmp 22)⟩,
      ⟨none, none, .act, .store 1 (.tmp 26) (.tmp 25)⟩])
    .skip))))
  (.region [
    ⟨(some 27), none, .act, .bin .add (.tmp 10) (.const (.int .i64 1))⟩,
    ⟨(some 10), none, .act, .mv (.tmp 27)⟩]))))
def r25 : RCode :=
  (.seq (.region [
    ⟨(some 2), none, .act, .mv (.const (.string ⟨#[]⟩))⟩])
  (.seq (.region [
    ⟨(some 6), none, .act, .mv (.tmp 0)⟩,
    ⟨(some 7), none, .act, .toBytes (.tmp 6)⟩,
    ⟨(some 3), none, .act, .mv (.tmp 7)⟩])
  (.seq (.seq (.region [
    ⟨(some 8), none, .act, .mv (.tmp 3)⟩,
    ⟨(some 9), none, .act, .len (.tmp 8)⟩,
    ⟨(some 10), none, .act, .mv (.const (.int .i64 0))⟩])
  (.block 0
   (.loop r25l0)))
  (.seq (.region [
    ⟨(some 28), none, .act, .mv (.tmp 3)⟩,
    ⟨(some 29), none, .act, .toStr (.tmp 28)⟩,
    ⟨(some 2), none, .act, .mv (.tmp 29)⟩])
  .ret))))
theorem res25 : ∃ c, Try.f25.body = some c ∧ resCode Try.prog 30 c = some r25 := ⟨_, rfl, by kernel_rfl⟩
theorem rr25 : resRes Try.prog Try.f25.results.toList = some [.tmp 2] := by kernel_rfl
theorem upper_loop (w : List UInt8) (hl : w.length ≤ 4611686018427387904) (r cap : Nat) (sp : List AV) (k : List RT) (Q : AV → AHeap → Prop) : ∀ (m j : Nat) (h : AHeap), j + m = w.length → h r = some (.row ((w.take j).map (fun c => u8 (up1 c)) ++ (w.drop j).map u8 ++ sp)) →
    RRun Try.prog Try.f25 30 k (Env.get [(3, slAt r 0 w.length cap)]) (h.set r (.row (w.map (fun c => u8 (up1 c)) ++ sp))) Q →
    RRun Try.prog Try.f25 30 (.inLoop r25l0 :: .inBlock 0 :: k) (Env.get [(10, i64 j), (9, i64 w.length), (8, slAt r 0 w.length cap), (3, slAt r 0 w.length cap)]) h Q := by
  intro m
  induction m with
  | zero =>
    intro j h hj hr hk
    have hd : w.drop j = [] := by simp; omega
    have ht : w.take j = w := List.take_of_length_le (by omega)
    rw [hd, ht, List.map_nil, List.append_nil] at hr
    rw [AHeap.set_eq h hr] at hk
    refine RRun.inLoop ?_
    repeat' (first | refine S.nilK ?_ | (refine S.op rfl ?_; first | ((first | refine S.lss rfl rfl ?_ ?_) <;> intro hlt <;> try (exfalso; omega))) | refine S.seq ?_ | refine S.region ?_ | refine S.condF rfl ?_ | refine RRun.exit rfl ?_)
    exact S.keep [3] rfl hk
  | succ m ih =>
    intro j h hj hr hk
    have hlt : j < w.length := by omega
    have hd : w.drop j = w[j] :: w.drop (j + 1) := List.drop_eq_getElem_cons hlt
    have ht : w.take (j + 1) = w.take j ++ [w[j]] := by rw [List.take_add_one]; simp [hlt]
    have htl : (w.take j).length = j := by simp; omega
    have hld : loadAV false 1 (((w.take j).map (fun c => u8 (up1 c)) ++ (w.drop j).map u8 ++ sp).drop (0 + ((j : Nat) : Int).toNat * 1)) = some (u8 w[j]) := by
      have e : 0 + ((j : Nat) : Int).toNat * 1 = ((w.take j).map (fun c => u8 (up1 c))).length := by simp; omega
      rw [e, List.append_assoc, List.drop_left, hd]
      rfl
    have hset : ∀ v, ((w.take j).map (fun c => u8 (up1 c)) ++ (w.drop j).map u8 ++ sp).set (0 + ((j : Nat) : Int).toNat * 1) v = (w.take j).map (fun c => u8 (up1 c)) ++ v :: (w.drop (j + 1)).map u8 ++ sp := by
      intro v
      have e : 0 + ((j : Nat) : Int).toNat * 1 = ((w.take j).map (fun c => u8 (up1 c))).length := by simp; omega
      rw [e, List.append_assoc, List.set_append_right _ _ (Nat.le_refl _), Nat.sub_self, hd, List.map_cons, List.cons_append, List.set_cons_zero]
      simp only [List.append_assoc, List.cons_append, List.nil_append]
    have hrow : (w.take (j + 1)).map (fun c => u8 (up1 c)) ++ (w.drop (j + 1)).map u8 ++ sp = (w.take j).map (fun c => u8 (up1 c)) ++ u8 (up1 w[j]) :: (w.drop (j + 1)).map u8 ++ sp := by
      rw [ht, List.map_append, List.map_cons, List.map_nil]
      simp only [List.append_assoc, List.cons_append, List.nil_append]
    have hfit : 0 + ((j : Nat) : Int).toNat * 1 < ((w.take j).map (fun c => u8 (up1 c)) ++ (w.drop j).map u8 ++ sp).length := by simp; omega
    have next := fun h' hr' => ih (j + 1) h' (by omega) hr'
    rw [hrow, show ((j + 1 : Nat) : Int) = (j : Int) + 1 by omega] at next
    clear ih hrow ht
    generalize w[j] = ch at *
    have hcl := ch.toNat_lt
    refine RRun.inLoop ?_
    by_cases hup : 97 ≤ ch.toNat ∧ ch.toNat ≤ 122
    · have hu : u8 (up1 ch) = .v (.int .u8 (IntKind.u8.wrap (IntKind.u8.wrap ((ch.toNat : Int) - 97) + 65))) := by
        have e1 : IntKind.u8.wrap ((ch.toNat : Int) - 97) = (ch.toNat : Int) - 97 := wrap_u8 (by omega) (by omega)
        rw [e1, wrap_u8 (by omega) (by omega)]
        unfold up1
        rw [if_pos hup]
        show AV.v (.int .u8 _) = _
        have : ((UInt8.ofNat (ch.toNat - 32)).toNat : Int) = (ch.toNat : Int) - 97 + 65 := by simp; omega
        rw [this]
      repeat' (first | (refine S.op0 rfl (R.storeRow rfl rfl hr rfl rfl hfit ?_)) | refine S.nilK ?_ | (refine S.op rfl ?_; first | refine R.indexAddrV rfl rfl (by omega) (by omega) ?_ | refine R.loadRow (by decide) rfl hr hld ?_ | (show ROpS _ _ (.bin .sub _ (.const (.int .u8 97))) _ _ _; refine S.arith rfl rfl rfl ?_) | (show ROpS _ _ (.bin .add _ (.const (.int .u8 65))) _ _ _; refine S.arith rfl rfl rfl ?_) | refine R.mv rfl ?_ | refine S.addI rfl rfl (by omega) ?_ | refine R.pickT rfl rfl ?_ | ((first | refine S.lss rfl rfl ?_ ?_ | refine S.leq rfl rfl ?_ ?_ | refine S.geq rfl rfl ?_ ?_) <;> intro hlt <;> try (exfalso; omega))) | refine S.seq ?_ | refine S.region ?_ | refine S.condT rfl ?_ | refine RRun.skip ?_ | refine RRun.block ?_ | refine RRun.inBlock ?_)
      rw [hset, ← hu]
      refine S.keep [10, 9, 8, 3] rfl ?_
      refine next _ (AHeap.set_same _ _ _) ?_
      rw [AHeap.set_set]
      exact hk
    · have hu : up1 ch = ch := by unfold up1; rw [if_neg hup]
      have hr' : h r = some (.row ((w.take j).map (fun c => u8 (up1 c)) ++ u8 (up1 ch) :: (w.drop (j + 1)).map u8 ++ sp)) := by
        rw [hr, hd, hu]
        simp only [List.map_cons, List.append_assoc, List.cons_append]
      repeat' (first | refine S.nilK ?_ | (refine S.op rfl ?_; first | refine R.indexAddrV rfl rfl (by omega) (by omega) ?_ | refine R.loadRow (by decide) rfl hr hld ?_ | refine R.mv rfl ?_ | refine S.addI rfl rfl (by omega) ?_ | refine R.pickT rfl rfl ?_ | refine R.pickF rfl rfl ?_ | ((first | refine S.lss rfl rfl ?_ ?_ | refine S.leq rfl rfl ?_ ?_ | refine S.geq rfl rfl ?_ ?_) <;> intro hlt <;> try (exfalso; omega))) | refine S.skip rfl ?_ | refine S.seq ?_ | refine S.region ?_ | refine S.condT rfl ?_ | refine S.condF rfl ?_ | refine RRun.skip ?_ | refine RRun.block ?_ | refine RRun.inBlock ?_)
      all_goals exact S.keep [10, 9, 8, 3] rfl (next h hr' hk)
theorem upper_spec (s : List UInt8) (hs : s.length ≤ 4611686018427387904) (h : AHeap) : ACalls Try.prog 25 [str s] h (fun x h' => x = str (upper s) ∧ h' = h) := by
  obtain ⟨c, hc1, hc2⟩ := res25
  refine ACalls.weak (ACalls.enter Try.func25 hc1 Try.ntmps25 hc2 (Nat.le_of_ble_eq_true rfl) rfl ?_)
  repeat' (first | refine S.nilK ?_ | (refine S.op rfl ?_; first | refine R.toBytesO (l := s) rfl rfl (fun r cap hr hcap => ?_) | refine R.mv rfl ?_ | refine R.lenA rfl ?_) | refine S.seq ?_ | refine S.region ?_ | refine RRun.block ?_)
  refine RRun.loopIn (S.keep [10, 9, 8, 3] rfl ?_)
  refine upper_loop s hs r cap _ _ _ s.length 0 _ (by omega) (AHeap.set_same _ _ _) ?_
  rw [AHeap.set_set]
  have hr1 := AHeap.set_same h r (.row (s.map (fun c => u8 (up1 c)) ++ List.replicate (cap - s.length) .any))
  repeat' (first | refine S.nilK ?_ | (refine S.op rfl ?_; first | refine R.toStrRow (l := upper s) (by decide) rfl hr1 (by unfold upper; simp) (by unfold upper; simp) ?_ | refine R.mv rfl ?_) | refine S.seq ?_ | refine S.region ?_)
  apply S.ret rr25
  case hx => repeat (first | exact ResAt.nil | apply ResAt.tmp rfl)
  exact ⟨_, h, .refl _, (by repeat (first | exact AHeap.le.refl _ | refine AHeap.le.set ?_ _ (by (repeat' (first | assumption)); first | done | fail))), rfl, rfl⟩
end Go.Proofs.Ytdinnoejipmiiaa

namespace Go.Av.Pa
variable {l : List Tok} {fin : Int}
mutual
/-- How large an expression is. -/
def Ex.w : Ex → Nat
  | .mk op t nm n v args => 60 + t.length + nm.length + 2 * v.s.length + Ex.wL args
def Ex.wL : List Ex → Nat
  | [] => 0
  | e :: r => Ex.w e + Ex.wL r
end
mutual
/-- Its numbers fit. -/
def Ex.lim : Ex → Prop
  | .mk op t nm n v args => ((-9223372036854775808 ≤ v.n ∧ v.n ≤ 9223372036854775807) ∧ v.s.length ≤ 1000) ∧ Ex.limL args
def Ex.limL : List Ex → Prop
  | [] => True
  | e :: r => Ex.lim e ∧ Ex.limL r
end
theorem w_op1 (op : Int) (e : Ex) : (opE op [e]).w = 60 + e.w := by unfold opE; rw [Ex.w, Ex.wL, Ex.wL]; simp [vz]
theorem w_op2 (op : Int) (e f : Ex) : (opE op [e, f]).w = 60 + e.w + f.w := by unfold opE; rw [Ex.w, Ex.wL, Ex.wL, Ex.wL]; simp [vz]; omega
theorem w_op0 (op : Int) : (opE op []).w = 60 := by unfold opE; rw [Ex.w, Ex.wL]; simp [vz]
theorem w_nil : Ex.nil.w = 60 := w_op0 0
theorem w_lit (v : Val) : (lit v).w = 60 + 2 * v.s.length := by unfold lit; rw [Ex.w, Ex.wL]; simp
theorem w_col (op : Int) (t nm : List UInt8) : (Ex.mk op t nm 0 vz []).w = 60 + t.length + nm.length := by rw [Ex.w, Ex.wL]; simp [vz]
theorem vz_fits : (-9223372036854775808 ≤ vz.n ∧ vz.n ≤ 9223372036854775807) ∧ vz.s.length ≤ 1000 := by decide
theorem lim_op1 (op : Int) {e : Ex} (h : e.lim) : (opE op [e]).lim := by unfold opE; rw [Ex.lim, Ex.limL, Ex.limL]; exact ⟨vz_fits, h, trivial⟩
theorem lim_op2 (op : Int) {e f : Ex} (h : e.lim) (h' : f.lim) : (opE op [e, f]).lim := by unfold opE; rw [Ex.lim, Ex.limL, Ex.limL, Ex.limL]; exact ⟨vz_fits, h, h', trivial⟩
theorem lim_mk (op : Int) (t nm : List UInt8) {v : Val} (h : (-9223372036854775808 ≤ v.n ∧ v.n ≤ 9223372036854775807) ∧ v.s.length ≤ 1000) : (Ex.mk op t nm 0 v []).lim := by rw [Ex.lim, Ex.limL]; exact ⟨h, trivial⟩
theorem lim_nil : Ex.nil.lim := lim_mk 0 [] [] vz_fits
def Lit (l : List Tok) : Prop := ∀ t ∈ l, t.s.length ≤ 2000 ∧ (-9223372036854775808 ≤ t.n ∧ t.n ≤ 9223372036854775807) ∧ (t.kind = 3 → t.s.length ≤ 1000)
structure Hs (l : List Tok) (i0 : Nat) (e : Ex) (s : PS) : Prop where
  w : e.w ≤ 4200 * (s.i - i0) + 60
  lim : e.lim
  up : i0 ≤ s.i
  le : s.i ≤ l.length
theorem Hs.nil {i0 : Nat} {s : PS} (up : i0 ≤ s.i) (le : s.i ≤ l.length) : Hs l i0 Ex.nil s := ⟨by rw [w_nil]; omega, lim_nil, up, le⟩
theorem Hs.later {i0 : Nat} {e : Ex} {s s' : PS} (h : Hs l i0 e s) (up : s.i ≤ s'.i) (le : s'.i ≤ l.length) : Hs l i0 e s' := ⟨by have := h.w; omega, h.lim, by have := h.up; omega, le⟩
theorem Hs.from {i0 i1 : Nat} {e : Ex} {s : PS} (h : Hs l i1 e s) (up : i0 ≤ i1) : Hs l i0 e s := ⟨by have := h.w; omega, h.lim, by have := h.up; omega, h.le⟩
theorem Hs.op1 {i0 i1 : Nat} {e : Ex} {s : PS} (op : Int) (h : Hs l i1 e s) (up : i0 + 1 ≤ i1) : Hs l i0 (opE op [e]) s := ⟨by have := h.w; have := h.up; rw [w_op1]; omega, lim_op1 op h.lim, by have := h.up; omega, h.le⟩
theorem take_more {st s' : PS} {s : List UInt8} (h : takeP l st s = (true, s')) : s'.i = st.i + 1 ∧ s'.i ≤ l.length := by
  obtain ⟨h1, h2⟩ := take_true h
  subst h1
  exact ⟨rfl, h2⟩
theorem kind_more {st s' : PS} {k : Int} {t : Tok} (h : kindP l st k = (some t, s')) : s'.i = st.i + 1 ∧ s'.i ≤ l.length ∧ t ∈ l := by
  have hm := (kind_mem h).1
  unfold kindP at h
  cases hl : l[st.i]? with
  | none => rw [hl] at h; cases h
  | some u =>
    rw [hl] at h
    simp only at h
    split at h
    · cases h; exact ⟨rfl, (List.getElem?_eq_some_iff.1 hl).1, hm⟩
    · cases h
theorem ops_more1 {st s' : PS} {op : Int} : ∀ {r : List (List UInt8 × Int)}, opsP l st r = (op, s') → op ≠ 0 → s'.i = st.i + 1 ∧ s'.i ≤ l.length
  | [], h, h0 => by cases h; exact absurd rfl h0
  | x :: r, h, h0 => by
    rw [opsP] at h
    split at h
    · next hi => cases h; exact ⟨rfl, isP_lt hi⟩
    · exact ops_more1 h h0
theorem name_lit (hl : Lit l) (st : PS) : (nameP l fin st).1.length ≤ 2000 := by
  unfold nameP
  cases hk : kindP l st 1 with
  | mk o s =>
    cases o with
    | none => simp
    | some t => exact (hl t (kind_more hk).2.2).1
theorem loop_has {f : PS → Ex × PS} {lv : Nat} (hf : ∀ st, st.i ≤ l.length → Hs l st.i (f st).1 (f st).2) : ∀ (m : Nat) (i0 : Nat) (e : Ex) (st : PS), Hs l i0 e st → Hs l i0 (leftLoop l f lv m e st).1 (leftLoop l f lv m e st).2
  | 0, i0, e, st, h => h
  | m + 1, i0, e, st, h => by
    rw [leftLoop]
    split
    · have h1 := operator_up (l := l) st lv h.le
      cases ho : operatorP l st lv with
      | mk op st' =>
        rw [ho] at h1
        simp only at h1 ⊢
        split
        · exact h.later h1.1 h1.2
        · next h0 =>
          have hm := ops_more1 (show opsP l st (levels.getD lv []) = (op, st') from ho) h0
          have h2 := hf st' h1.2
          generalize f st' = xx at *
          rcases xx with ⟨y, st''⟩
          simp only at h2 ⊢
          refine loop_has hf m i0 _ st'' ⟨?_, lim_op2 op h.lim h2.lim, ?_, h2.le⟩
          · rw [w_op2]
            have := h.w; have := h2.w; have := h.up; have := h2.up
            omega
          · have := h.up; have := h2.up
            omega
    · exact h
theorem primary_has (hl : Lit l) {inner : Int → PS → Ex × PS} (hf : ∀ p st, st.i ≤ l.length → Hs l st.i (inner p st).1 (inner p st).2) (st : PS) (h : st.i ≤ l.length) : Hs l st.i (primaryP l fin inner st).1 (primaryP l fin inner st).2 := by
  unfold primaryP
  simp only
  have k2 := kind_up (l := l) st 2 h
  cases e2 : kindP l st 2 with
  | mk o s2 =>
  rw [e2] at k2
  have u2 : st.i ≤ s2.i := k2.1
  have v2 : s2.i ≤ l.length := k2.2
  rcases o with _ | t
  rotate_left
  · obtain ⟨m1, m2, m3⟩ := kind_more e2
    simp only
    refine ⟨?_, lim_mk _ _ _ ⟨(hl t m3).2.1, by simp⟩, by omega, m2⟩
    rw [w_lit]; simp
  simp only
  have k3 := kind_up (l := l) s2 3 v2
  cases e3 : kindP l s2 3 with
  | mk o s3 =>
  rw [e3] at k3
  have u3 : s2.i ≤ s3.i := k3.1
  have v3 : s3.i ≤ l.length := k3.2
  rcases o with _ | t
  rotate_left
  · obtain ⟨m1, m2, m3⟩ := kind_more e3
    simp only
    refine ⟨?_, lim_mk _ _ _ ⟨by simp, (hl t m3).2.2 (kind_mem e3).2.1⟩, by omega, m2⟩
    rw [w_lit]
    have := (hl t m3).1
    simp only
    omega
  simp only
  have k1 := kind_up (l := l) s3 1 v3
  cases e1 : kindP l s3 1 with
  | mk o s1 =>
  rw [e1] at k1
  have u1 : s3.i ≤ s1.i := k1.1
  have v1 : s1.i ≤ l.length := k1.2
  rcases o with _ | t
  rotate_left
  · obtain ⟨m1, m2, m3⟩ := kind_more e1
    have ht := (hl t m3).1
    simp only
    have d := take_up (l := l) s1 (bs ".") v1
    cases e4 : takeP l s1 (bs ".") with
    | mk o4 s4 =>
    rw [e4] at d
    have u4 : s1.i ≤ s4.i := d.1
    have v4 : s4.i ≤ l.length := d.2
    cases o4 with
    | false =>
      simp only
      refine ⟨?_, lim_mk _ _ _ vz_fits, by omega, v4⟩
      rw [w_col]
      simp only [List.length_nil]
      omega
    | true =>
      simp only
      have nu := name_up (l := l) (fin := fin) s4 v4
      have nl := name_lit (fin := fin) hl s4
      generalize nameP l fin s4 = xx at *
      rcases xx with ⟨nm, s5⟩
      have u5 : s4.i ≤ s5.i := nu.1
      have v5 : s5.i ≤ l.length := nu.2
      simp only at nl ⊢
      refine ⟨?_, lim_mk _ _ _ vz_fits, by omega, v5⟩
      rw [w_col]
      omega
  simp only
  have d := take_up (l := l) s1 (bs "null") v1
  cases e4 : takeP l s1 (bs "null") with
  | mk o4 s4 =>
  rw [e4] at d
  have u4 : s1.i ≤ s4.i := d.1
  have v4 : s4.i ≤ l.length := d.2
  rcases o4 with _ | _
  rotate_left
  · simp only
    refine ⟨?_, lim_mk _ _ _ vz_fits, by omega, v4⟩
    rw [w_lit]; simp [vz]
  simp only
  have d := take_up (l := l) s4 (bs "(") v4
  cases e5 : takeP l s4 (bs "(") with
  | mk o5 s5 =>
  rw [e5] at d
  have u5 : s4.i ≤ s5.i := d.1
  have v5 : s5.i ≤ l.length := d.2
  rcases o5 with _ | _
  rotate_left
  · simp only
    have i := hf (atP l fin st) s5 v5
    generalize inner (atP l fin st) s5 = xx at *
    rcases xx with ⟨e, s6⟩
    have n := need_up (l := l) (fin := fin) s6 [bs ")"] i.le
    exact (i.from (by omega)).later n.1 n.2
  simp only
  have d := take_up (l := l) s5 (bs "count") v5
  cases e6 : takeP l s5 (bs "count") with
  | mk o6 s6 =>
  rw [e6] at d
  have u6 : s5.i ≤ s6.i := d.1
  have v6 : s6.i ≤ l.length := d.2
  rcases o6 with _ | _
  rotate_left
  · simp only
    have n := need_up (l := l) (fin := fin) s6 [bs "(", bs "*", bs ")"] v6
    refine ⟨?_, lim_mk _ _ _ vz_fits, by have := n.1; omega, n.2⟩
    rw [w_op0]; omega
  simp only
  have d := ops_up (l := l) s6 aggs v6
  cases e7 : opsP l s6 aggs with
  | mk op s7 =>
  rw [e7] at d
  have u7 : s6.i ≤ s7.i := d.1
  have v7 : s7.i ≤ l.length := d.2
  simp only
  split
  · exact Hs.nil (by rw [wrong_i]; omega) (by rw [wrong_i]; omega)
  · next h0 =>
    have hm := (ops_more1 e7 h0).1
    have n1 := need_up (l := l) (fin := fin) s7 [bs "("] v7
    have i := hf (atP l fin st) _ n1.2
    generalize inner (atP l fin st) (needP l fin s7 [bs "("]) = xx at *
    rcases xx with ⟨e, s8⟩
    have n2 := need_up (l := l) (fin := fin) s8 [bs ")"] i.le
    exact (i.op1 op (by have := n1.1; omega)).later n2.1 n2.2
theorem ev_has (hl : Lit l) : ∀ (n : Nat) (fn : Fn) (st : PS), st.i ≤ l.length → Hs l st.i (ev l fin n fn st).1 (ev l fin n fn st).2
  | 0, _, st, h => by rw [ev]; exact Hs.nil (by rw [fail_i]; omega) (by rw [fail_i]; exact h)
  | n + 1, fn, st, h => by
    have ih := ev_has hl n
    cases fn with
    | left lv =>
      rw [ev]
      have h1 := ih (.below lv) st h
      generalize ev l fin n (.below lv) st = xx at *
      rcases xx with ⟨e, s1⟩
      exact loop_has (fun s hs => ih _ s hs) _ _ e s1 h1
    | below lv =>
      rw [ev]
      repeat' split
      all_goals exact ih _ st h
    | not =>
      rw [ev]
      simp only
      have d := take_up (l := l) st (bs "not") h
      cases e1 : takeP l st (bs "not") with
      | mk o s1 =>
      rw [e1] at d
      have u1 : st.i ≤ s1.i := d.1
      have v1 : s1.i ≤ l.length := d.2
      cases o with
      | false => exact (ih _ s1 v1).from u1
      | true =>
        have m := (take_more e1).1
        simp only
        have e := enter_i s1 (atP l fin st)
        generalize enterP s1 (atP l fin st) = xx at *
        rcases xx with ⟨_ | _, s2⟩
        · exact Hs.nil (by simp only at e ⊢; omega) (by simp only at e ⊢; omega)
        · simp only at e ⊢
          have r := ih .not s2 (by omega)
          generalize ev l fin n .not s2 = xx at *
          rcases xx with ⟨x, s3⟩
          exact (r.op1 16 (i0 := st.i) (by omega)).later (Nat.le_refl _) r.le
    | compare =>
      rw [ev]
      have h1 := ih (.left 3) st h
      generalize ev l fin n (.left 3) st = xx at *
      rcases xx with ⟨e, s1⟩
      simp only at h1 ⊢
      have d := operator_up (l := l) s1 2 h1.le
      cases e2 : operatorP l s1 2 with
      | mk op s2 =>
      rw [e2] at d
      have u2 : s1.i ≤ s2.i := d.1
      have v2 : s2.i ≤ l.length := d.2
      simp only
      split
      · next h0 =>
        have hm := (ops_more1 (show opsP l s1 (levels.getD 2 []) = (op, s2) from e2) h0).1
        have h3 := ih (.left 3) s2 v2
        generalize ev l fin n (.left 3) s2 = xx at *
        rcases xx with ⟨y, s3⟩
        simp only at h3 ⊢
        refine ⟨?_, lim_op2 op h1.lim h3.lim, ?_, h3.le⟩
        · rw [w_op2]
          have := h1.w; have := h3.w; have := h1.up; have := h3.up
          omega
        · have := h1.up; have := h3.up
          omega
      · have d := take_up (l := l) s2 (bs "is") v2
        cases e3 : takeP l s2 (bs "is") with
        | mk o s3 =>
        rw [e3] at d
        have u3 : s2.i ≤ s3.i := d.1
        have v3 : s3.i ≤ l.length := d.2
        cases o with
        | false => exact h1.later (by show s1.i ≤ s3.i; omega) v3
        | true =>
          have m := (take_more e3).1
          simp only
          have d := take_up (l := l) s3 (bs "not") v3
          generalize takeP l s3 (bs "not") = xx at *
          rcases xx with ⟨b, s4⟩
          have u4 : s3.i ≤ s4.i := d.1
          have v4 : s4.i ≤ l.length := d.2
          simp only
          have nd := need_up (l := l) (fin := fin) s4 [bs "null"] v4
          have := nd.1; have := h1.up; have := h1.w
          cases b with
          | true =>
            simp only [if_true]
            refine ⟨?_, lim_op1 16 (lim_op1 19 h1.lim), by omega, nd.2⟩
            rw [w_op1, w_op1]
            omega
          | false =>
            simp only [Bool.false_eq_true, if_false]
            refine ⟨?_, lim_op1 19 h1.lim, by omega, nd.2⟩
            rw [w_op1]
            omega
    | minus =>
      rw [ev]
      simp only
      have d := take_up (l := l) st (bs "-") h
      cases e1 : takeP l st (bs "-") with
      | mk o s1 =>
      rw [e1] at d
      have u1 : st.i ≤ s1.i := d.1
      have v1 : s1.i ≤ l.length := d.2
      cases o with
      | false => exact (ih _ s1 v1).from u1
      | true =>
        have m := (take_more e1).1
        simp only
        have e := enter_i s1 (atP l fin st)
        generalize enterP s1 (atP l fin st) = xx at *
        rcases xx with ⟨_ | _, s2⟩
        · exact Hs.nil (by simp only at e ⊢; omega) (by simp only at e ⊢; omega)
        · simp only at e ⊢
          have r := ih .minus s2 (by omega)
          generalize ev l fin n .minus s2 = xx at *
          rcases xx with ⟨x, s3⟩
          exact (r.op1 4 (i0 := st.i) (by omega)).later (Nat.le_refl _) r.le
    | primary =>
      rw [ev]
      exact primary_has hl (fun p s hs => ih _ s hs) st h
    | inner p =>
      rw [ev]
      have e := enter_i st p
      generalize enterP st p = xx at *
      rcases xx with ⟨_ | _, s2⟩
      · exact Hs.nil (by simp only at e ⊢; omega) (by simp only at e ⊢; omega)
      · simp only at e ⊢
        have r := ih (.left 0) s2 (by omega)
        generalize ev l fin n (.left 0) s2 = xx at *
        rcases xx with ⟨x, s3⟩
        exact (r.from (show st.i ≤ s2.i by omega)).later (Nat.le_refl _) r.le
end Go.Av.Pa

namespace Go.Proofs.Ytdinnoejipmiiaa
open Go.Av
theorem put_one (t : Tok) : putT [t] = tokText t := by simp [putT]
def r27 : RCode :=
  (.block 0
   (.seq (.region [
     ⟨(some 15), none, .act, .mv (.tmp 1)⟩,
     ⟨(some 16), none, .act, .bin .geq (.tmp 15) (.const (.int .i64 0))⟩,
     ⟨(some 14), none, .act, .mv (.tmp 16)⟩])
   (.cond (.tmp 14)
    (.region [
      ⟨(some 17), none, .act, .mv (.tmp 0)⟩,
      ⟨(some 18), none, .act, .mv (.tmp 1)⟩,
      ⟨(some 19), none, .act, .build [(.int .i64 0), (.string ⟨#[]⟩), (.int .i64 0), (.int .i64 0)] [(0, 1, (.const (.int .i64 2))), (2, 1, (.tmp 18))]⟩,
      ⟨(some 20), none, .act, .buildSl 4 [(.int .i64 0), (.string ⟨#[]⟩), (.int .i64 0), (.int .i64 0)] 1 [(0, (.tmp 19))]⟩,
      ⟨(some 21), none, .act, .call 46 [(.tmp 20)]⟩,
      ⟨(some 22), none, .act, .buildSl 1 [(.string ⟨#[]⟩)] 1 [(0, (.tmp 21))]⟩,
      ⟨(some 23), none, .act, .call 23 [(.tmp 17), (.tmp 22)]⟩])
    (.seq (.region [
      ⟨(some 25), none, .act, .mv (.tmp 1)⟩,
      ⟨(some 26), none, .act, .eq false .int (.tmp 25) (.const (.int .i64 (-9223372036854775808)))⟩,
      ⟨(some 24), none, .act, .mv (.tmp 26)⟩])
    (.cond (.tmp 24)
     (.seq (.region [
       ⟨(some 27), none, .act, .mv (.tmp 0)⟩,
       ⟨(some 28), none, .act, .buildSl 1 [(.string ⟨#[]⟩)] 1 [(0, (.const (.string ⟨#[40]⟩)))]⟩,
       ⟨(some 29), none, .act, .call 23 [(.tmp 27), (.tmp 28)]⟩])
     (.seq (.region [
       ⟨(some 30), none, .act, .mv (.tmp 0)⟩,
       ⟨(some 31), none, .act, .mv (.tmp 1)⟩,
       ⟨(some 32), none, .act, .bin .add (.tmp 31) (.const (.int .i64 1))⟩,
       ⟨(some 33), none, .act, .call 27 [(.tmp 30), (.tmp 32)]⟩])
     (.region [
       ⟨(some 34), none, .act, .mv (.tmp 0)⟩,
       ⟨(some 35), none, .act, .buildSl 1 [(.string ⟨#[]⟩)] 3 [(0, (.const (.string ⟨#[45]⟩))), (1, (.const (.string ⟨#[49]⟩))), (2, (.const (.string ⟨#[41]⟩)))]⟩,
       ⟨(some 36), none, .act, .call 23 [(.tmp 34), (.tmp 35)]⟩])))
     (.seq (.region [
       ⟨(some 4), none, .act, .mv (.tmp 0)⟩,
       ⟨(some 5), none, .act, .buildSl 1 [(.string ⟨#[]⟩)] 2 [(0, (.const (.string ⟨#[40]⟩))), (1, (.const (.string ⟨#[45]⟩)))]⟩,
       ⟨(some 6), none, .act, .call 23 [(.tmp 4), (.tmp 5)]⟩])
     (.seq (.region [
       ⟨(some 7), none, .act, .mv (.tmp 0)⟩,
       ⟨(some 8), none, .act, .mv (.tmp 1)⟩,
       ⟨(some 9), none, .act, .un .neg (.tmp 8)⟩,
       ⟨(some 10), none, .act, .call 27 [(.tmp 7), (.tmp 9)]⟩])
     (.region [
       ⟨(some 11), none, .act, .mv (.tmp 0)⟩,
       ⟨(some 12), none, .act, .buildSl 1 [(.string ⟨#[]⟩)] 1 [(0, (.const (.string ⟨#[41]⟩)))]⟩,
       ⟨(some 13), none, .act, .call 23 [(.tmp 11), (.tmp 12)]⟩]))))))))
theorem res27 : ∃ c, Try.f27.body = some c ∧ resCode Try.prog 37 c = some r27 := ⟨_, rfl, by kernel_rfl⟩
theorem rr27 : resRes Try.prog Try.f27.results.toList = some [] := by kernel_rfl
theorem pnum_spec (n : Int) (h0 : 0 ≤ n) (hf : n ≤ 9223372036854775807) (p : Nat) (h₀ h : AHeap) (acc : List UInt8) (hacc : acc.length + sumL [numB n] ≤ 1000000000000) (hw : WAt h₀ p acc h) :
    ACalls Try.prog 27 [ptr p, i64 n] h (fun _ h' => WAt h₀ p (putL acc [numB n]) h') := by
  obtain ⟨c, hc1, hc2⟩ := res27
  refine ACalls.enter Try.func27 hc1 Try.ntmps27 hc2 (Nat.le_of_ble_eq_true rfl) rfl ?_
  have cp := fun h => ACalls.args (args := [.sl 4 [[i64 2, str [], i64 n, i64 0]] .full]) (put11_spec [⟨2, [], n, 0⟩] ⟨by simp, fun t ht => by
    simp only [List.mem_singleton] at ht; subst ht; exact ⟨by simp, by unfold Fits; simp only; omega⟩⟩ h) (.cons (.toRo _ _ _) .nil)
  rw [put_one, show tokText ⟨2, [], n, 0⟩ = numB n from rfl] at cp
  have cw := putw_spec [numB n] (by simp) .full p h₀ h acc hacc hw
  repeat' (first | refine S.nilK ?_ | (refine S.op rfl ?_; first | (show ROpS _ _ (.call 46 _) _ _ _; refine callN rfl rfl (cp _) rfl ?_) | refine R.mv rfl ?_ | refine R.build rfl rfl ?_ | refine R.buildSl rfl rfl rfl (by decide) ?_ | ((first | refine S.geq rfl rfl ?_ ?_) <;> intro hlt <;> try (exfalso; omega))) | refine S.seq ?_ | refine S.region ?_ | refine S.condT rfl ?_ | refine RRun.block ?_)
  refine S.op rfl (R.call rfl rfl (cw.mono fun x h' hw' => ?_))
  repeat' (first | refine S.nilK ?_ | refine RRun.inBlock ?_)
  apply S.done rr27
  case hx => repeat (first | exact ResAt.nil)
  exact hw'
def r26 : RCode :=
  (.seq (.region [
    ⟨(some 3), none, .act, .box (.tmp 1)⟩])
  (.seq (.region [
    ⟨(some 4), none, .act, .fieldAddr 0 (.tmp 3)⟩,
    ⟨(some 5), none, .act, .load false 1 (.tmp 4)⟩])
  (.block 0
   (.seq (.region [
     ⟨(some 10), none, .act, .eq false .int (.tmp 5) (.const (.int .i64 1))⟩,
     ⟨(some 9), none, .act, .mv (.tmp 10)⟩])
   (.cond (.tmp 9)
    (.region [
      ⟨(some 11), none, .act, .mv (.tmp 0)⟩,
      ⟨(some 12), none, .act, .fieldAddr 1 (.tmp 3)⟩,
      ⟨(some 13), none, .act, .load false 1 (.tmp 12)⟩,
      ⟨(some 14), none, .act, .call 27 [(.tmp 11), (.tmp 13)]⟩])
    (.seq (.region [
      ⟨(some 16), none, .act, .eq false .int (.tmp 5) (.const (.int .i64 2))⟩,
      ⟨(some 15), none, .act, .mv (.tmp 16)⟩])
    (.cond (.tmp 15)
     (.region [
       ⟨(some 17), none, .act, .mv (.tmp 0)⟩,
       ⟨(some 18), none, .act, .fieldAddr 2 (.tmp 3)⟩,
       ⟨(some 19), none, .act, .load false 1 (.tmp 18)⟩,
       ⟨(some 20), none, .act, .build [(.int .i64 0), (.string ⟨#[]⟩), (.int .i64 0), (.int .i64 0)] [(0, 1, (.const (.int .i64 3))), (1, 1, (.tmp 19))]⟩,
       ⟨(some 21), none, .act, .buildSl 4 [(.int .i64 0), (.string ⟨#[]⟩), (.int .i64 0), (.int .i64 0)] 1 [(0, (.tmp 20))]⟩,
       ⟨(some 22), none, .act, .call 46 [(.tmp 21)]⟩,
       ⟨(some 23), none, .act, .buildSl 1 [(.string ⟨#[]⟩)] 1 [(0, (.tmp 22))]⟩,
       ⟨(some 24), none, .act, .call 23 [(.tmp 17), (.tmp 23)]⟩])
     (.region [
       ⟨(some 6), none, .act, .mv (.tmp 0)⟩,
       ⟨(some 7), none, .act, .buildSl 1 [(.string ⟨#[]⟩)] 1 [(0, (.const (.string ⟨#[78, 85, 76, 76]⟩)))]⟩,
       ⟨(some 8), none, .act, .call 23 [(.tmp 6), (.tmp 7)]⟩]))))))))
theorem res26 : ∃ c, Try.f26.body = some c ∧ resCode Try.prog 25 c = some r26 := ⟨_, rfl, by kernel_rfl⟩
theorem rr26 : resRes Try.prog Try.f26.results.toList = some [] := by kernel_rfl
theorem pval_spec (v : Pa.Val) (t : List UInt8) (ht : (v.kind = 1 ∧ 0 ≤ v.n ∧ v.n ≤ 9223372036854775807 ∧ t = numB v.n) ∨ (v.kind = 2 ∧ v.s.length ≤ 1000000 ∧ t = 39 :: (dbl v.s ++ [39])) ∨ (v.kind = 0 ∧ t = [78, 85, 76, 76]))
    (p : Nat) (h₀ h : AHeap) (acc : List UInt8) (hacc : acc.length + sumL [t] ≤ 1000000000000) (hw : WAt h₀ p acc h) :
    ACalls Try.prog 26 [ptr p, .ag [i64 v.kind, i64 v.n, str v.s]] h (fun _ h' => WAt h₀ p (putL acc [t]) h') := by
  obtain ⟨c, hc1, hc2⟩ := res26
  refine ACalls.enter Try.func26 hc1 Try.ntmps26 hc2 (Nat.le_of_ble_eq_true rfl) rfl ?_
  obtain ⟨k, n, s⟩ := v
  simp only at ht ⊢
  rcases ht with ⟨rfl, h0, hf, rfl⟩ | ⟨rfl, hs, rfl⟩ | ⟨rfl, rfl⟩
  · repeat' (first | refine S.nilK ?_ | (refine S.op rfl ?_; first | refine R.mv rfl ?_ | refine R.fieldAddr rfl ?_ | refine R.load (by decide) rfl (by (repeat' (first | exact AHeap.set_same _ _ _)); first | done | fail) rfl ?_ | refine R.box rfl rfl rfl (fun b hb => ?_) | ((first | refine S.eqInt rfl rfl ?_ ?_) <;> intro hlt <;> try (exfalso; omega))) | refine S.seq ?_ | refine S.region ?_ | refine S.condT rfl ?_ | refine RRun.block ?_)
    have cn := pnum_spec n h0 hf p _ _ acc hacc (hw.up (o := .box [i64 1, i64 n, str s]) hb)
    refine S.op rfl (R.call rfl rfl (cn.mono fun x h' hw' => ?_))
    repeat' (first | refine S.nilK ?_ | refine RRun.inBlock ?_)
    apply S.done rr26
    case hx => repeat (first | exact ResAt.nil)
    exact hw'.down (hw.free hb)
  · have cp := fun h => ACalls.args (args := [.sl 4 [[i64 3, str s, i64 0, i64 0]] .full]) (put11_spec [⟨3, s, 0, 0⟩] ⟨by simp, fun t ht => by
      simp only [List.mem_singleton] at ht; subst ht; exact ⟨hs, by unfold Fits; simp only; omega⟩⟩ h) (.cons (.toRo _ _ _) .nil)
    rw [put_one, show tokText ⟨3, s, 0, 0⟩ = 39 :: (dbl s ++ [39]) from rfl] at cp
    repeat' (first | refine S.nilK ?_ | (refine S.op rfl ?_; first | (show ROpS _ _ (.call 46 _) _ _ _; refine callN rfl rfl (cp _) rfl ?_) | refine R.mv rfl ?_ | refine R.fieldAddr rfl ?_ | refine R.load (by decide) rfl (by (repeat' (first | exact AHeap.set_same _ _ _)); first | done | fail) rfl ?_ | refine R.box rfl rfl rfl (fun b hb => ?_) | refine R.build rfl rfl ?_ | refine R.buildSl rfl rfl rfl (by decide) ?_ | ((first | refine S.eqInt rfl rfl ?_ ?_) <;> intro hlt <;> try (exfalso; omega))) | refine S.seq ?_ | refine S.region ?_ | refine S.condT rfl ?_ | refine S.condF rfl ?_ | refine RRun.block ?_)
    have cw := putw_spec [39 :: (dbl s ++ [39])] (by simp) .full p _ _ acc hacc (hw.up (o := .box [i64 2, i64 n, str s]) hb)
    refine S.op rfl (R.call rfl rfl (cw.mono fun x h' hw' => ?_))
    repeat' (first | refine S.nilK ?_ | refine RRun.inBlock ?_)
    apply S.done rr26
    case hx => repeat (first | exact ResAt.nil)
    exact hw'.down (hw.free hb)
  · repeat' (first | refine S.nilK ?_ | (refine S.op rfl ?_; first | refine R.mv rfl ?_ | refine R.fieldAddr rfl ?_ | refine R.load (by decide) rfl (by (repeat' (first | exact AHeap.set_same _ _ _)); first | done | fail) rfl ?_ | refine R.box rfl rfl rfl (fun b hb => ?_) | refine R.buildSl rfl rfl rfl (by decide) ?_ | ((first | refine S.eqInt rfl rfl ?_ ?_) <;> intro hlt <;> try (exfalso; omega))) | refine S.seq ?_ | refine S.region ?_ | refine S.condF rfl ?_ | refine RRun.block ?_)
    have cw := putw_spec [[78, 85, 76, 76]] (by decide) .full p _ _ acc hacc (hw.up (o := .box [i64 0, i64 n, str s]) hb)
    refine S.op rfl (R.call rfl rfl (cw.mono fun x h' hw' => ?_))
    repeat' (first | refine S.nilK ?_ | refine RRun.inBlock ?_)
    apply S.done rr26
    case hx => repeat (first | exact ResAt.nil)
    exact hw'.down (hw.free hb)
def r28 : RCode :=
  (.seq (.region [
    ⟨(some 2), none, .act, .mv (.const (.string ⟨#[]⟩))⟩])
  (.seq (.seq (.region [
    ⟨(some 3), none, .act, .mv (.tmp 0)⟩,
    ⟨(some 4), none, .act, .eq false .int (.tmp 3) (.const (.int .i64 4))⟩])
  (.cond (.tmp 4)
   (.seq (.region [
     ⟨(some 2), none, .act, .mv (.const (.string ⟨#[45]⟩))⟩])
   .ret)
   .skip))
  (.seq (.region [
    ⟨(some 2), none, .act, .mv (.const (.string ⟨#[78, 79, 84]⟩))⟩])
  .ret)))
theorem res28 : ∃ c, Try.f28.body = some c ∧ resCode Try.prog 5 c = some r28 := ⟨_, rfl, by kernel_rfl⟩
theorem rr28 : resRes Try.prog Try.f28.results.toList = some [.tmp 2] := by kernel_rfl
theorem ahead_spec (op : Int) (h : AHeap) : ACalls Try.prog 28 [i64 op] h (fun x h' => x = str (if op = 4 then [45] else [78, 79, 84]) ∧ h' = h) := by
  obtain ⟨c, hc1, hc2⟩ := res28
  refine ACalls.enter Try.func28 hc1 Try.ntmps28 hc2 (Nat.le_of_ble_eq_true rfl) rfl ?_
  repeat' (first | refine S.nilK ?_ | (refine S.op rfl ?_; first | refine R.mv rfl ?_ | ((first | refine S.eqInt rfl rfl ?_ ?_) <;> intro hlt <;> try (exfalso; omega))) | refine S.seq ?_ | refine S.region ?_ | refine S.condT rfl ?_ | refine S.condF rfl ?_ | refine RRun.skip ?_)
  · apply S.ret rr28
    case hx => repeat (first | exact ResAt.nil | apply ResAt.tmp rfl)
    rw [if_pos hlt]
    exact ⟨rfl, rfl⟩
  · apply S.ret rr28
    case hx => repeat (first | exact ResAt.nil | apply ResAt.tmp rfl)
    rw [if_neg hlt]
    exact ⟨rfl, rfl⟩
def r24 : RCode :=
  (.seq (.region [
    ⟨(some 2), none, .act, .box (.tmp 0)⟩,
    ⟨(some 4), none, .act, .alloc [(.int .i64 0), (.string ⟨#[]⟩), (.string ⟨#[]⟩), (.int .i64 0), (.int .i64 0), (.int .i64 0), (.string ⟨#[]⟩), (.slice none 0 0)]⟩])
  (.seq (.seq (.region [
    ⟨(some 5), none, .act, .mv (.tmp 1)⟩,
    ⟨(some 6), none, .act, .fieldAddr 7 (.tmp 2)⟩,
    ⟨(some 7), none, .act, .load false 1 (.tmp 6)⟩,
    ⟨(some 8), none, .act, .len (.tmp 7)⟩,
    ⟨(some 9), none, .act, .bin .lss (.tmp 5) (.tmp 8)⟩])
  (.cond (.tmp 9)
   (.seq (.region [
     ⟨(some 10), none, .act, .fieldAddr 7 (.tmp 2)⟩,
     ⟨(some 11), none, .act, .load false 1 (.tmp 10)⟩,
     ⟨(some 12), none, .act, .mv (.tmp 1)⟩,
     ⟨(some 13), none, .act, .indexAddr 8 (.tmp 11) (.tmp 12)⟩,
     ⟨(some 14), none, .act, .load true 8 (.tmp 13)⟩,
     ⟨none, none, .act, .store 8 (.tmp 4) (.tmp 14)⟩])
   .ret)
   .skip))
  (.seq (.region [
    ⟨(some 15), none, .act, .build [(.int .i64 0), (.int .i64 0), (.string ⟨#[]⟩)] []⟩,
    ⟨(some 16), none, .act, .call 45 [(.tmp 15)]⟩,
    ⟨none, none, .act, .store 8 (.tmp 4) (.tmp 16)⟩])
  .ret)))
theorem res24 : ∃ c, Try.f24.body = some c ∧ resCode Try.prog 17 c = some r24 := ⟨_, rfl, by kernel_rfl⟩
theorem rr24 : resRes Try.prog Try.f24.results.toList = some [.cell 4 true 8] := by kernel_rfl
theorem part_spec (e : Pa.Ex) (i : Nat) (x : Pa.Ex) (hx : ∃ op t nm n v args, e = .mk op t nm n v args ∧ args[i]? = some x) (h : AHeap) : ACalls Try.prog 24 [.ag e.cells, i64 i] h (fun y h' => y = .ag x.cells ∧ h' = h) := by
  obtain ⟨op, t, nm, n, ⟨vk, vn, vs⟩, ars, rfl, hx⟩ := hx
  obtain ⟨op1, t1, nm1, n1, ⟨vk1, vn1, vs1⟩, ars1⟩ := x
  rw [Pa.Ex.cells_mk]
  obtain ⟨c, hc1, hc2⟩ := res24
  refine ACalls.weak (ACalls.enter Try.func24 hc1 Try.ntmps24 hc2 (Nat.le_of_ble_eq_true rfl) rfl ?_)
  have hl : (ars.map Pa.Ex.cells).length = ars.length := by simp
  have hi := (List.getElem?_eq_some_iff.1 hx).1
  have h1 : (ars.map Pa.Ex.cells)[((i : Nat) : Int).toNat]? = some [i64 op1, str t1, str nm1, i64 n1, i64 vk1, i64 vn1, str vs1, .sl 8 (ars1.map Pa.Ex.cells) .ro] := by
    simp only [Int.toNat_natCast, List.getElem?_map, hx, Option.map_some, Pa.Ex.cells_mk]
  repeat' (first | refine S.nilK ?_ | (refine S.op rfl ?_; first | refine R.indexAddr rfl rfl (by omega) h1 ?_ | refine R.mv rfl ?_ | refine R.fieldAddr rfl ?_ | refine R.loadR rfl rfl ?_ | refine R.load (by decide) rfl (by (repeat' (first | exact AHeap.set_same _ _ _ | refine AHeap.get_fresh ‹_› ?_)); first | done | fail) rfl ?_ | refine R.len rfl ?_ | refine R.alloc rfl (fun b hb => ?_) | refine R.box rfl rfl rfl (fun b hb => ?_) | ((first | refine S.lss rfl rfl ?_ ?_) <;> intro hlt <;> try (exfalso; omega))) | (refine S.op0 rfl ?_; first | refine S.storeS rfl rfl rfl (by rfl) rfl (by first | decide | exact Nat.le_refl _ | exact Nat.le_of_ble_eq_true rfl) ?_) | refine S.seq ?_ | refine S.region ?_ | refine S.condT rfl ?_)
  apply S.ret rr24
  case hx => repeat (first | exact ResAt.nil | apply ResAt.cellA rfl (by (repeat' (first | exact AHeap.set_same _ _ _)); first | done | fail) (by rfl))
  exact ⟨_, h, ex_le (.refl _), (by repeat (first | exact AHeap.le.refl _ | refine AHeap.le.set ?_ _ (by (repeat' (first | assumption | exact AHeap.z1 ‹_›)); first | done | fail))), rfl, rfl⟩
def r44 : RCode :=
  (.seq (.region [
    ⟨(some 2), none, .act, .box (.tmp 0)⟩,
    ⟨(some 3), none, .act, .mv (.const (.bool false))⟩])
  (.seq (.region [
    ⟨(some 4), none, .act, .fieldAddr 1 (.tmp 2)⟩,
    ⟨(some 5), none, .act, .load false 1 (.tmp 4)⟩,
    ⟨(some 6), none, .act, .load false 1 (.tmp 1)⟩,
    ⟨(some 7), none, .act, .eq false .int (.tmp 5) (.tmp 6)⟩,
    ⟨(some 3), none, .act, .mv (.tmp 7)⟩])
  .ret))
theorem res44 : ∃ c, Try.f44.body = some c ∧ resCode Try.prog 8 c = some r44 := ⟨_, rfl, by kernel_rfl⟩
theorem rr44 : resRes Try.prog Try.f44.results.toList = some [.tmp 3] := by kernel_rfl
theorem btw1_spec (x : List UInt8 × Int) (op : Int) (q : Nat) (h : AHeap) (hq : h q = some (.box [i64 op])) : ACalls Try.prog 44 [.ag (sgA x), ptr q] h (fun y h' => y = bl (decide (x.2 = op)) ∧ h' = h) := by
  obtain ⟨c, hc1, hc2⟩ := res44
  refine ACalls.weak (ACalls.enter Try.func44 hc1 Try.ntmps44 hc2 (Nat.le_of_ble_eq_true rfl) rfl ?_)
  repeat' (first | refine S.nilK ?_ | (refine S.op rfl ?_; first | refine R.mv rfl ?_ | refine R.fieldAddr rfl ?_ | refine R.load (by decide) rfl (by (repeat' (first | assumption | exact AHeap.set_same _ _ _ | refine AHeap.get_fresh ‹_› ?_)); first | done | fail) rfl ?_ | refine R.box rfl rfl rfl (fun b hb => ?_) | ((first | refine S.eqInt rfl rfl ?_ ?_) <;> intro hlt <;> try (exfalso; omega))) | refine S.seq ?_ | refine S.region ?_)
  · apply S.ret rr44
    case hx => repeat (first | exact ResAt.nil | apply ResAt.tmp rfl)
    exact ⟨_, h, .refl _, (by repeat (first | exact AHeap.le.refl _ | refine AHeap.le.set ?_ _ (by (repeat' (first | assumption)); first | done | fail))), congrArg bl (decide_eq_true hlt).symm, rfl⟩
  · apply S.ret rr44
    case hx => repeat (first | exact ResAt.nil | apply ResAt.tmp rfl)
    exact ⟨_, h, .refl _, (by repeat (first | exact AHeap.le.refl _ | refine AHeap.le.set ?_ _ (by (repeat' (first | assumption)); first | done | fail))), congrArg bl (decide_eq_false hlt).symm, rfl⟩
def idxF (op : Int) (l : List (List UInt8 × Int)) : Int := match l.findIdx? (fun x => decide (x.2 = op)) with
  | some i => (i : Int)
  | none => -1
def cloB (q : Nat) : AV := .v (.func (.func 44) #[] #[.pointer (some ⟨q, 0, none⟩)])
def r43l0 : RCode :=
  (.seq (.region [
    ⟨(some 9), none, .act, .bin .lss (.tmp 8) (.tmp 7)⟩])
  (.seq (.cond (.tmp 9)
   .skip
   (.exit 0))
  (.seq (.block 1
   (.seq (.region [
     ⟨(some 10), none, .act, .mv (.tmp 8)⟩,
     ⟨(some 5), none, .act, .mv (.tmp 10)⟩])
   (.seq (.region [
     ⟨(some 11), none, .act, .mv (.tmp 1)⟩,
     ⟨(some 12), none, .act, .mv (.tmp 0)⟩,
     ⟨(some 13), none, .act, .mv (.tmp 5)⟩,
     ⟨(some 14), none, .act, .indexAddr 2 (.tmp 12) (.tmp 13)⟩,
     ⟨(some 15), none, .act, .load true 2 (.tmp 14)⟩,
     ⟨(some 16), none, .act, .callv (.tmp 11) [(.tmp 15)]⟩])
   (.cond (.tmp 16)
    (.seq (.region [
      ⟨(some 17), none, .act, .mv (.tmp 5)⟩,
      ⟨(some 4), none, .act, .mv (.tmp 17)⟩])
    .ret)
    .skip))))
  (.region [
    ⟨(some 18), none, .act, .bin .add (.tmp 8) (.const (.int .i64 1))⟩,
    ⟨(some 8), none, .act, .mv (.tmp 18)⟩]))))
def r43 : RCode :=
  (.seq (.region [
    ⟨(some 4), none, .act, .mv (.const (.int .i64 0))⟩])
  (.seq (.seq (.region [
    ⟨(some 6), none, .act, .mv (.tmp 0)⟩,
    ⟨(some 7), none, .act, .len (.tmp 6)⟩,
    ⟨(some 8), none, .act, .mv (.const (.int .i64 0))⟩])
  (.block 0
   (.loop r43l0)))
  (.seq (.region [
    ⟨(some 4), none, .act, .mv (.const (.int .i64 (-1)))⟩])
  .ret)))
theorem res43 : ∃ c, Try.f43.body = some c ∧ resCode Try.prog 19 c = some r43 := ⟨_, rfl, by kernel_rfl⟩
theorem rr43 : resRes Try.prog Try.f43.results.toList = some [.tmp 4] := by kernel_rfl
theorem idxF_loop (l : List (List UInt8 × Int)) (hl : l.length ≤ 100) (op : Int) (q : Nat) (h : AHeap) (hq : h q = some (.box [i64 op])) : ∀ (m i : Nat), i + m = l.length → (∀ x ∈ l.take i, ¬ x.2 = op) →
    RRun Try.prog Try.f43 19 (.inLoop r43l0 :: .inBlock 0 :: [.code (.seq (.region [⟨(some 4), none, .act, .mv (.const (.int .i64 (-1)))⟩]) .ret)]) (Env.get [(0, sgsA l), (1, cloB q), (6, sgsA l), (7, i64 l.length), (8, i64 i)]) h (fun y h' => y = i64 (idxF op l) ∧ h' = h) := by
  intro m
  induction m with
  | zero =>
    intro i hi hn
    rw [List.take_of_length_le (by omega)] at hn
    refine RRun.inLoop ?_
    repeat' (first | refine S.nilK ?_ | (refine S.op rfl ?_; first | refine R.mv rfl ?_ | ((first | refine S.lss rfl rfl ?_ ?_) <;> intro hlt <;> try (exfalso; omega))) | refine S.seq ?_ | refine S.region ?_ | refine S.condF rfl ?_ | refine RRun.exit rfl ?_)
    apply S.ret rr43
    case hx => repeat (first | exact ResAt.nil | apply ResAt.tmp rfl)
    have : l.findIdx? (fun x => decide (x.2 = op)) = none := by
      rw [List.findIdx?_eq_none_iff]
      intro x hx
      exact decide_eq_false (hn x hx)
    unfold idxF
    rw [this]
    exact ⟨rfl, rfl⟩
  | succ m ih =>
    intro i hi hn
    have hie : i < l.length := by omega
    have h1 : (l.map sgA)[((i : Nat) : Int).toNat]? = some [str l[i].1, i64 l[i].2] := by simp [hie]
    have c44 := btw1_spec l[i] op q h hq
    refine RRun.inLoop ?_
    unfold sgsA
    by_cases hop : l[i].2 = op
    · rw [decide_eq_true hop] at c44
      repeat' (first | refine S.nilK ?_ | (refine S.op rfl ?_; first | refine R.indexAddr rfl rfl (by omega) h1 ?_ | refine R.callv rfl (f := 44) rfl rfl rfl (c44.mono fun y h' ⟨e1, e2⟩ => ?_) | refine R.mv rfl ?_ | refine R.loadR rfl rfl ?_ | ((first | refine S.lss rfl rfl ?_ ?_) <;> intro hlt <;> try (exfalso; omega))) | refine S.seq ?_ | refine S.region ?_ | refine S.condT rfl ?_ | refine RRun.skip ?_ | refine RRun.block ?_)
      subst e1; subst e2
      repeat' (first | refine S.nilK ?_ | (refine S.op rfl ?_; first | refine R.mv rfl ?_) | refine S.seq ?_ | refine S.region ?_ | refine S.condT rfl ?_)
      apply S.ret rr43
      case hx => repeat (first | exact ResAt.nil | apply ResAt.tmp rfl)
      have : l.findIdx? (fun x => decide (x.2 = op)) = some i := by
        rw [List.findIdx?_eq_some_iff_getElem]
        refine ⟨hie, decide_eq_true hop, fun j hj => ?_⟩
        have := hn l[j] (by
          rw [List.mem_take_iff_getElem]
          exact ⟨j, by omega, rfl⟩)
        simpa using this
      unfold idxF
      rw [this]
      exact ⟨rfl, rfl⟩
    · rw [decide_eq_false hop] at c44
      repeat' (first | refine S.nilK ?_ | (refine S.op rfl ?_; first | refine R.indexAddr rfl rfl (by omega) h1 ?_ | refine R.callv rfl (f := 44) rfl rfl rfl (c44.mono fun y h' ⟨e1, e2⟩ => ?_) | refine R.mv rfl ?_ | refine R.loadR rfl rfl ?_ | ((first | refine S.lss rfl rfl ?_ ?_) <;> intro hlt <;> try (exfalso; omega))) | refine S.seq ?_ | refine S.region ?_ | refine S.condT rfl ?_ | refine RRun.skip ?_ | refine RRun.block ?_)
      subst e1; subst e2
      repeat' (first | refine S.nilK ?_ | (refine S.op rfl ?_; first | refine R.mv rfl ?_ | refine S.addI rfl rfl (by omega) ?_) | refine S.region ?_ | refine S.condF rfl ?_ | refine RRun.skip ?_ | refine RRun.inBlock ?_)
      rw [show ((i : Int) + 1) = ((i + 1 : Nat) : Int) by omega]
      refine S.keep [0, 1, 6, 7, 8] rfl (ih (i + 1) (by omega) fun x hx => ?_)
      rw [List.take_add_one, List.getElem?_eq_getElem hie] at hx
      rcases List.mem_append.1 hx with hx | hx
      · exact hn x hx
      · simp only [Option.toList_some, List.mem_singleton] at hx
        rw [hx]; exact hop
theorem idxF_spec (l : List (List UInt8 × Int)) (hl : l.length ≤ 100) (op : Int) (q : Nat) (h : AHeap) (hq : h q = some (.box [i64 op])) :
    ACalls Try.prog 43 [sgsA l, cloB q] h (fun y h' => y = i64 (idxF op l) ∧ h' = h) := by
  obtain ⟨c, hc1, hc2⟩ := res43
  refine ACalls.enter Try.func43 hc1 Try.ntmps43 hc2 (Nat.le_of_ble_eq_true rfl) rfl ?_
  have hll : (l.map sgA).length = l.length := by simp
  unfold sgsA
  repeat' (first | refine S.nilK ?_ | (refine S.op rfl ?_; first | refine R.mv rfl ?_ | refine R.len rfl ?_) | refine S.seq ?_ | refine S.region ?_ | refine RRun.block ?_)
  rw [hll]
  exact RRun.loopIn (S.keep [0, 1, 6, 7, 8] rfl (idxF_loop l hl op q h hq l.length 0 (by omega) (fun x hx => by simp at hx)))
end Go.Proofs.Ytdinnoejipmiiaa

namespace Go.Proofs.Ytdinnoejipmiiaa
open Go.Av
def btwF (op : Int) (L : List (List (List UInt8 × Int))) : Option (List UInt8) := (L.flatten.find? (fun x => decide (x.2 = op))).map (·.1)
def btwA (o : Option (List UInt8)) : AV := match o with
  | some s => .tu [str s, bl true]
  | none => .tu [str [], bl false]
theorem idxF_none {op : Int} {l : List (List UInt8 × Int)} (h : l.find? (fun x => decide (x.2 = op)) = none) : idxF op l = -1 := by
  have : l.findIdx? (fun x => decide (x.2 = op)) = none := by
    rw [List.findIdx?_eq_none_iff]
    rw [List.find?_eq_none] at h
    intro x hx
    have := h x hx
    simpa using this
  unfold idxF; rw [this]
theorem idxF_some {op : Int} {l : List (List UInt8 × Int)} {x : List UInt8 × Int} (h : l.find? (fun x => decide (x.2 = op)) = some x) : ∃ i : Nat, idxF op l = i ∧ l[i]? = some x := by
  rw [List.find?_eq_some_iff_getElem] at h
  obtain ⟨hx, i, hi, he, hlt⟩ := h
  refine ⟨i, ?_, by rw [List.getElem?_eq_getElem hi, he]⟩
  have : l.findIdx? (fun x => decide (x.2 = op)) = some i := by
    rw [List.findIdx?_eq_some_iff_getElem]
    refine ⟨hi, by rw [he]; exact hx, fun j hj => ?_⟩
    have := hlt j hj
    simpa using this
  unfold idxF; rw [this]
def r22l0 : RCode :=
  (.seq (.region [
    ⟨(some 9), none, .act, .bin .lss (.tmp 8) (.const (.int .i64 5))⟩])
  (.seq (.cond (.tmp 9)
   .skip
   (.exit 0))
  (.seq (.block 1
   (.seq (.region [
     ⟨(some 10), none, .act, .indexAg false 5 1 (.tmp 7) (.tmp 8)⟩,
     ⟨(some 5), none, .act, .mv (.tmp 10)⟩])
   (.seq (.region [
     ⟨(some 11), none, .act, .mv (.tmp 5)⟩,
     ⟨(some 12), none, .act, .makeFunc (.func 44) [] [(.tmp 1)]⟩,
     ⟨(some 13), none, .act, .call 43 [(.tmp 11), (.tmp 12)]⟩,
     ⟨(some 6), none, .act, .mv (.tmp 13)⟩])
   (.seq (.region [
     ⟨(some 14), none, .act, .mv (.tmp 6)⟩,
     ⟨(some 15), none, .act, .bin .geq (.tmp 14) (.const (.int .i64 0))⟩])
   (.cond (.tmp 15)
    (.seq (.region [
      ⟨(some 16), none, .act, .mv (.tmp 5)⟩,
      ⟨(some 17), none, .act, .mv (.tmp 6)⟩,
      ⟨(some 18), none, .act, .indexAddr 2 (.tmp 16) (.tmp 17)⟩,
      ⟨(some 19), none, .act, .fieldAddr 0 (.tmp 18)⟩,
      ⟨(some 20), none, .act, .load false 1 (.tmp 19)⟩,
      ⟨(some 2), none, .act, .mv (.tmp 20)⟩,
      ⟨(some 3), none, .act, .mv (.const (.bool true))⟩])
    .ret)
    .skip)))))
  (.region [
    ⟨(some 21), none, .act, .bin .add (.tmp 8) (.const (.int .i64 1))⟩,
    ⟨(some 8), none, .act, .mv (.tmp 21)⟩]))))
def r22 : RCode :=
  (.seq (.region [
    ⟨(some 1), none, .act, .box (.tmp 0)⟩,
    ⟨(some 2), none, .act, .mv (.const (.string ⟨#[]⟩))⟩,
    ⟨(some 3), none, .act, .mv (.const (.bool false))⟩])
  (.seq (.seq (.region [
    ⟨(some 7), none, .act, .call 42 []⟩,
    ⟨(some 8), none, .act, .mv (.const (.int .i64 0))⟩])
  (.block 0
   (.loop r22l0)))
  (.seq (.region [
    ⟨(some 2), none, .act, .mv (.const (.string ⟨#[]⟩))⟩,
    ⟨(some 3), none, .act, .mv (.const (.bool false))⟩])
  .ret)))
theorem res22 : ∃ c, Try.f22.body = some c ∧ resCode Try.prog 22 c = some r22 := ⟨_, rfl, by kernel_rfl⟩
theorem rr22 : resRes Try.prog Try.f22.results.toList = some [.tmp 2, .tmp 3] := by kernel_rfl
theorem btw_loop (L : List (List (List UInt8 × Int))) (hL : L.length = 5) (hl : ∀ l ∈ L, l.length ≤ 100) (op : Int) (q : Nat) (h : AHeap) (hq : h q = some (.box [i64 op])) (x3 x2 : AV) (k : List RT) (Q : AV → AHeap → Prop)
    (hk : btwF op L = none → RRun Try.prog Try.f22 22 k (Env.get []) h Q)
    (hs : ∀ s, btwF op L = some s → Q (.tu [str s, bl true]) h) : ∀ (m i : Nat), i + m = 5 → btwF op L = btwF op (L.drop i) →
    RRun Try.prog Try.f22 22 (.inLoop r22l0 :: .inBlock 0 :: k) (Env.get [(1, ptr q), (7, .ag (L.map sgsA)), (8, i64 i), (2, x2), (3, x3)]) h Q := by
  intro m
  induction m with
  | zero =>
    intro i hi hb
    rw [List.drop_eq_nil_of_le (by omega)] at hb
    refine RRun.inLoop ?_
    repeat' (first | refine S.nilK ?_ | (refine S.op rfl ?_; first | ((first | refine S.lss rfl rfl ?_ ?_) <;> intro hlt <;> try (exfalso; omega))) | refine S.seq ?_ | refine S.region ?_ | refine S.condF rfl ?_ | refine RRun.exit rfl ?_)
    exact S.keep [] rfl (hk hb)
  | succ m ih =>
    intro i hi hb
    have hie : i < L.length := by omega
    have h1 : (L.map sgsA)[((i : Nat) : Int).toNat * 1]? = some (sgsA L[i]) := by simp [hie]
    have hd : L.drop i = L[i] :: L.drop (i + 1) := List.drop_eq_getElem_cons hie
    have hll := hl _ (List.getElem_mem hie)
    have ci := idxF_spec L[i] hll op q h hq
    unfold btwF at hb
    rw [hd, List.flatten_cons, List.find?_append] at hb
    refine RRun.inLoop ?_
    generalize L[i] = l at *
    have hsg : sgsA l = .sl 2 (l.map sgA) .full := rfl
    cases hf : l.find? (fun x => decide (x.2 = op)) with
    | none =>
      rw [idxF_none hf] at ci
      rw [hf, Option.none_or] at hb
      clear hf
      repeat' (first | refine S.nilK ?_ | (refine S.op rfl ?_; first | refine R.indexAg rfl rfl (by omega) (by omega) (by rw [if_neg (by decide)]; exact h1) ?_ | (show ROpS _ _ (.call 43 _) _ _ _; refine callN rfl rfl ci rfl ?_) | refine R.mv rfl ?_ | refine S.addI rfl rfl (by omega) ?_ | refine R.makeFunc rfl rfl ?_ | ((first | refine S.lss rfl rfl ?_ ?_ | refine S.geq rfl rfl ?_ ?_) <;> intro hlt <;> try (exfalso; omega))) | refine S.seq ?_ | refine S.region ?_ | refine S.condT rfl ?_ | refine S.condF rfl ?_ | refine RRun.skip ?_ | refine RRun.block ?_ | refine RRun.inBlock ?_)
      rw [show ((i : Int) + 1) = ((i + 1 : Nat) : Int) by omega]
      exact S.keep [1, 7, 8, 2, 3] rfl (ih (i + 1) (by omega) hb)
    | some x =>
      obtain ⟨j, hj, hx⟩ := idxF_some hf
      rw [hj] at ci
      rw [hf, Option.some_or] at hb
      clear hf
      have h2 : (l.map sgA)[((j : Nat) : Int).toNat]? = some [str x.1, i64 x.2] := by simp [hx]
      repeat' (first | refine S.nilK ?_ | (refine S.op rfl ?_; first | refine R.indexAg rfl rfl (by omega) (by omega) (by rw [if_neg (by decide)]; exact h1) ?_ | (show ROpS _ _ (.call 43 _) _ _ _; refine callN rfl rfl ci rfl ?_) | refine R.indexAddr (sz := 2) (es := l.map sgA) (cc := .full) rfl rfl (by omega) h2 ?_ | refine R.mv rfl ?_ | refine R.fieldAddrR rfl ?_ | refine R.loadR rfl rfl ?_ | refine R.makeFunc rfl rfl ?_ | ((first | refine S.lss rfl rfl ?_ ?_ | refine S.geq rfl rfl ?_ ?_) <;> intro hlt <;> try (exfalso; omega))) | refine S.seq ?_ | refine S.region ?_ | refine S.condT rfl ?_ | refine RRun.skip ?_ | refine RRun.block ?_)
      apply S.ret rr22
      case hx => repeat (first | exact ResAt.nil | apply ResAt.tmp rfl)
      exact hs x.1 hb
theorem btw_spec (op : Int) (h : AHeap) : ACalls Try.prog 22 [i64 op] h (fun x h' => x = btwA (btwF op Pa.levelsL) ∧ h' = h) := by
  obtain ⟨c, hc1, hc2⟩ := res22
  refine ACalls.weak (ACalls.enter Try.func22 hc1 Try.ntmps22 hc2 (Nat.le_of_ble_eq_true rfl) rfl ?_)
  have c42 := levels_spec
  have h5 : Pa.levelsL.length = 5 := rfl
  have hl : ∀ l ∈ Pa.levelsL, l.length ≤ 100 := by decide
  generalize Pa.levelsL = L at *
  repeat' (first | refine S.nilK ?_ | (refine S.op rfl ?_; first | (show ROpS _ _ (.call 42 _) _ _ _; refine callN rfl rfl (c42 _) rfl ?_) | refine R.mv rfl ?_ | refine R.box rfl rfl rfl (fun b hb => ?_)) | refine S.seq ?_ | refine S.region ?_ | refine RRun.block ?_)
  have hq := AHeap.set_same h b (.box [i64 op])
  have hle : h.le (h.set b (.box [i64 op])) := box_gone hb
  refine RRun.loopIn (S.keep [1, 7, 8, 2, 3] rfl (btw_loop L h5 hl op b _ hq _ _ _ _ (fun hn => ?_) (fun s hs => ?_) 5 0 (by omega) rfl))
  · repeat' (first | refine S.nilK ?_ | (refine S.op rfl ?_; first | refine R.mv rfl ?_) | refine S.seq ?_ | refine S.region ?_)
    apply S.ret rr22
    case hx => repeat (first | exact ResAt.nil | apply ResAt.tmp rfl)
    rw [hn]
    exact ⟨_, h, .refl _, hle, rfl, rfl⟩
  · rw [hs]
    exact ⟨_, h, .refl _, hle, rfl, rfl⟩
end Go.Proofs.Ytdinnoejipmiiaa

namespace Go.Proofs.Ytdinnoejipmiiaa
open Go.Av
open Go.Av.Pa (Told Pc betw)
def ptxt : Pc → List UInt8
  | .word s => if Pa.reserved s then upper s else s
  | .mark s => s
  | .num n => numB n
  | .quo s => 39 :: (dbl s ++ [39])
def txts (ps : List Pc) : List (List UInt8) := ps.map ptxt
def PutE (x : Pa.Ex) (ps : List Pc) : Prop := ∀ (p : Nat) (h₀ h : AHeap) (acc : List UInt8), acc.length + sumL (txts ps) ≤ 1000000000000 → WAt h₀ p acc h →
  ACalls Try.prog 15 [ptr p, .ag x.cells] h (fun _ h' => WAt h₀ p (putL acc (txts ps)) h')
theorem putL_le {acc : List UInt8} {l : List (List UInt8)} {n : Nat} (h : acc.length + sumL l ≤ n) : (putL acc l).length ≤ n := Nat.le_trans (putL_len l acc) h
theorem putL_app2 (acc : List UInt8) (a b : List (List UInt8)) : putL (putL acc a) b = putL acc (a ++ b) := (putL_app acc a b).symm
def aggT (op : Int) (T : List (List UInt8)) (l : List (List UInt8 × Int)) : List (List UInt8) := l.flatMap fun x => if x.2 = op then [upper x.1, [40]] ++ T ++ [[41]] else []
def r15l0 : RCode :=
  (.seq (.region [
    ⟨(some 102), none, .act, .bin .lss (.tmp 101) (.tmp 100)⟩])
  (.seq (.cond (.tmp 102)
   .skip
   (.exit 1))
  (.seq (.block 2
   (.seq (.region [
     ⟨(some 103), none, .act, .indexAddr 2 (.tmp 99) (.tmp 101)⟩,
     ⟨(some 104), none, .act, .load true 2 (.tmp 103)⟩,
     ⟨(some 7), none, .act, .alloc [(.string ⟨#[]⟩), (.int .i64 0)]⟩,
     ⟨none, none, .act, .store 2 (.tmp 7) (.tmp 104)⟩])
   (.seq (.region [
     ⟨(some 105), none, .act, .fieldAddr 1 (.tmp 7)⟩,
     ⟨(some 106), none, .act, .load false 1 (.tmp 105)⟩,
     ⟨(some 107), none, .act, .fieldAddr 0 (.tmp 3)⟩,
     ⟨(some 108), none, .act, .load false 1 (.tmp 107)⟩,
     ⟨(some 109), none, .act, .eq false .int (.tmp 106) (.tmp 108)⟩])
   (.cond (.tmp 109)
    (.seq (.region [
      ⟨(some 110), none, .act, .mv (.tmp 0)⟩,
      ⟨(some 111), none, .act, .fieldAddr 0 (.tmp 7)⟩,
      ⟨(some 112), none, .act, .load false 1 (.tmp 111)⟩,
      ⟨(some 113), none, .act, .call 25 [(.tmp 112)]⟩,
      ⟨(some 114), none, .act, .buildSl 1 [(.string ⟨#[]⟩)] 2 [(0, (.tmp 113)), (1, (.const (.string ⟨#[40]⟩)))]⟩,
      ⟨(some 115), none, .act, .call 23 [(.tmp 110), (.tmp 114)]⟩])
    (.seq (.region [
      ⟨(some 116), none, .act, .mv (.tmp 0)⟩,
      ⟨(some 117), none, .act, .load true 8 (.tmp 3)⟩,
      ⟨(some 118), none, .act, .call 24 [(.tmp 117), (.const (.int .i64 0))]⟩,
      ⟨(some 119), none, .act, .call 15 [(.tmp 116), (.tmp 118)]⟩])
    (.region [
      ⟨(some 120), none, .act, .mv (.tmp 0)⟩,
      ⟨(some 121), none, .act, .buildSl 1 [(.string ⟨#[]⟩)] 1 [(0, (.const (.string ⟨#[41]⟩)))]⟩,
      ⟨(some 122), none, .act, .call 23 [(.tmp 120), (.tmp 121)]⟩])))
    .skip))))
  (.region [
    ⟨(some 123), none, .act, .bin .add (.tmp 101) (.const (.int .i64 1))⟩,
    ⟨(some 101), none, .act, .mv (.tmp 123)⟩]))))
def r15 : RCode :=
  (.seq (.region [
    ⟨(some 3), none, .act, .box (.tmp 1)⟩])
  (.seq (.seq (.region [
    ⟨(some 9), none, .act, .fieldAddr 0 (.tmp 3)⟩,
    ⟨(some 10), none, .act, .load false 1 (.tmp 9)⟩,
    ⟨(some 11), none, .act, .call 22 [(.tmp 10)]⟩,
    ⟨(some 8), none, .act, .mv (.tmp 11)⟩,
    ⟨(some 12), none, .act, .extract (.tmp 8) 0⟩,
    ⟨(some 13), none, .act, .extract (.tmp 8) 1⟩,
    ⟨(some 4), none, .act, .mv (.tmp 12)⟩,
    ⟨(some 5), none, .act, .mv (.tmp 13)⟩])
  (.seq (.region [
    ⟨(some 14), none, .act, .mv (.tmp 5)⟩])
  (.cond (.tmp 14)
   (.seq (.region [
     ⟨(some 15), none, .act, .mv (.tmp 0)⟩,
     ⟨(some 16), none, .act, .buildSl 1 [(.string ⟨#[]⟩)] 1 [(0, (.const (.string ⟨#[40]⟩)))]⟩,
     ⟨(some 17), none, .act, .call 23 [(.tmp 15), (.tmp 16)]⟩])
   (.seq (.region [
     ⟨(some 18), none, .act, .mv (.tmp 0)⟩,
     ⟨(some 19), none, .act, .load true 8 (.tmp 3)⟩,
     ⟨(some 20), none, .act, .call 24 [(.tmp 19), (.const (.int .i64 0))]⟩,
     ⟨(some 21), none, .act, .call 15 [(.tmp 18), (.tmp 20)]⟩])
   (.seq (.region [
     ⟨(some 22), none, .act, .mv (.tmp 0)⟩,
     ⟨(some 23), none, .act, .mv (.tmp 4)⟩,
     ⟨(some 24), none, .act, .call 25 [(.tmp 23)]⟩,
     ⟨(some 25), none, .act, .buildSl 1 [(.string ⟨#[]⟩)] 1 [(0, (.tmp 24))]⟩,
     ⟨(some 26), none, .act, .call 23 [(.tmp 22), (.tmp 25)]⟩])
   (.seq (.region [
     ⟨(some 27), none, .act, .mv (.tmp 0)⟩,
     ⟨(some 28), none, .act, .load true 8 (.tmp 3)⟩,
     ⟨(some 29), none, .act, .call 24 [(.tmp 28), (.const (.int .i64 1))]⟩,
     ⟨(some 30), none, .act, .call 15 [(.tmp 27), (.tmp 29)]⟩])
   (.seq (.region [
     ⟨(some 31), none, .act, .mv (.tmp 0)⟩,
     ⟨(some 32), none, .act, .buildSl 1 [(.string ⟨#[]⟩)] 1 [(0, (.const (.string ⟨#[41]⟩)))]⟩,
     ⟨(some 33), none, .act, .call 23 [(.tmp 31), (.tmp 32)]⟩])
   .ret)))))
   .skip)))
  (.seq (.seq (.region [
    ⟨(some 34), none, .act, .fieldAddr 0 (.tmp 3)⟩,
    ⟨(some 35), none, .act, .load false 1 (.tmp 34)⟩])
  (.block 0
   (.seq (.region [
     ⟨(some 37), none, .act, .eq false .int (.tmp 35) (.const (.int .i64 1))⟩,
     ⟨(some 36), none, .act, .mv (.tmp 37)⟩])
   (.cond (.tmp 36)
    (.region [
      ⟨(some 38), none, .act, .mv (.tmp 0)⟩,
      ⟨(some 39), none, .act, .fieldAddr 4 (.tmp 3)⟩,
      ⟨(some 40), none, .act, .load true 3 (.tmp 39)⟩,
      ⟨(some 41), none, .act, .call 26 [(.tmp 38), (.tmp 40)]⟩])
    (.seq (.region [
      ⟨(some 43), none, .act, .eq false .int (.tmp 35) (.const (.int .i64 2))⟩,
      ⟨(some 42), none, .act, .mv (.tmp 43)⟩])
    (.cond (.tmp 42)
     (.seq (.seq (.region [
       ⟨(some 44), none, .act, .fieldAddr 1 (.tmp 3)⟩,
       ⟨(some 45), none, .act, .load false 1 (.tmp 44)⟩,
       ⟨(some 46), none, .act, .eq true .str (.tmp 45) (.const (.string ⟨#[]⟩))⟩])
     (.cond (.tmp 46)
      (.region [
        ⟨(some 47), none, .act, .mv (.tmp 0)⟩,
        ⟨(some 48), none, .act, .fieldAddr 1 (.tmp 3)⟩,
        ⟨(some 49), none, .act, .load false 1 (.tmp 48)⟩,
        ⟨(some 50), none, .act, .buildSl 1 [(.string ⟨#[]⟩)] 2 [(0, (.tmp 49)), (1, (.const (.string ⟨#[46]⟩)))]⟩,
        ⟨(some 51), none, .act, .call 23 [(.tmp 47), (.tmp 50)]⟩])
      .skip))
     (.region [
       ⟨(some 52), none, .act, .mv (.tmp 0)⟩,
       ⟨(some 53), none, .act, .fieldAddr 2 (.tmp 3)⟩,
       ⟨(some 54), none, .act, .load false 1 (.tmp 53)⟩,
       ⟨(some 55), none, .act, .buildSl 1 [(.string ⟨#[]⟩)] 1 [(0, (.tmp 54))]⟩,
       ⟨(some 56), none, .act, .call 23 [(.tmp 52), (.tmp 55)]⟩]))
     (.seq (.region [
       ⟨(some 58), none, .act, .eq false .int (.tmp 35) (.const (.int .i64 3))⟩,
       ⟨(some 57), none, .act, .mv (.tmp 58)⟩])
     (.cond (.tmp 57)
      (.seq (.region [
        ⟨(some 59), none, .act, .mv (.tmp 0)⟩,
        ⟨(some 60), none, .act, .buildSl 1 [(.string ⟨#[]⟩)] 1 [(0, (.const (.string ⟨#[35]⟩)))]⟩,
        ⟨(some 61), none, .act, .call 23 [(.tmp 59), (.tmp 60)]⟩])
      (.region [
        ⟨(some 62), none, .act, .mv (.tmp 0)⟩,
        ⟨(some 63), none, .act, .fieldAddr 3 (.tmp 3)⟩,
        ⟨(some 64), none, .act, .load false 1 (.tmp 63)⟩,
        ⟨(some 65), none, .act, .call 27 [(.tmp 62), (.tmp 64)]⟩]))
      (.seq (.seq (.region [
        ⟨(some 67), none, .act, .eq false .int (.tmp 35) (.const (.int .i64 4))⟩,
        ⟨(some 66), none, .act, .mv (.tmp 67)⟩])
      (.cond (.tmp 66)
       .skip
       (.region [
         ⟨(some 68), none, .act, .eq false .int (.tmp 35) (.const (.int .i64 16))⟩,
         ⟨(some 66), none, .act, .mv (.tmp 68)⟩])))
      (.cond (.tmp 66)
       (.seq (.region [
         ⟨(some 69), none, .act, .mv (.tmp 0)⟩,
         ⟨(some 70), none, .act, .fieldAddr 0 (.tmp 3)⟩,
         ⟨(some 71), none, .act, .load false 1 (.tmp 70)⟩,
         ⟨(some 72), none, .act, .call 28 [(.tmp 71)]⟩,
         ⟨(some 73), none, .act, .buildSl 1 [(.string ⟨#[]⟩)] 2 [(0, (.const (.string ⟨#[40]⟩))), (1, (.tmp 72))]⟩,
         ⟨(some 74), none, .act, .call 23 [(.tmp 69), (.tmp 73)]⟩])
       (.seq (.region [
         ⟨(some 75), none, .act, .mv (.tmp 0)⟩,
         ⟨(some 76), none, .act, .load true 8 (.tmp 3)⟩,
         ⟨(some 77), none, .act, .call 24 [(.tmp 76), (.const (.int .i64 0))]⟩,
         ⟨(some 78), none, .act, .call 15 [(.tmp 75), (.tmp 77)]⟩])
       (.region [
         ⟨(some 79), none, .act, .mv (.tmp 0)⟩,
         ⟨(some 80), none, .act, .buildSl 1 [(.string ⟨#[]⟩)] 1 [(0, (.const (.string ⟨#[41]⟩)))]⟩,
         ⟨(some 81), none, .act, .call 23 [(.tmp 79), (.tmp 80)]⟩])))
       (.seq (.region [
         ⟨(some 83), none, .act, .eq false .int (.tmp 35) (.const (.int .i64 19))⟩,
         ⟨(some 82), none, .act, .mv (.tmp 83)⟩])
       (.cond (.tmp 82)
        (.seq (.region [
          ⟨(some 84), none, .act, .mv (.tmp 0)⟩,
          ⟨(some 85), none, .act, .buildSl 1 [(.string ⟨#[]⟩)] 1 [(0, (.const (.string ⟨#[40]⟩)))]⟩,
          ⟨(some 86), none, .act, .call 23 [(.tmp 84), (.tmp 85)]⟩])
        (.seq (.region [
          ⟨(some 87), none, .act, .mv (.tmp 0)⟩,
          ⟨(some 88), none, .act, .load true 8 (.tmp 3)⟩,
          ⟨(some 89), none, .act, .call 24 [(.tmp 88), (.const (.int .i64 0))]⟩,
          ⟨(some 90), none, .act, .call 15 [(.tmp 87), (.tmp 89)]⟩])
        (.region [
          ⟨(some 91), none, .act, .mv (.tmp 0)⟩,
          ⟨(some 92), none, .act, .buildSl 1 [(.string ⟨#[]⟩)] 3 [(0, (.const (.string ⟨#[73, 83]⟩))), (1, (.const (.string ⟨#[78, 85, 76, 76]⟩))), (2, (.const (.string ⟨#[41]⟩)))]⟩,
          ⟨(some 93), none, .act, .call 23 [(.tmp 91), (.tmp 92)]⟩])))
        (.seq (.region [
          ⟨(some 95), none, .act, .eq false .int (.tmp 35) (.const (.int .i64 20))⟩,
          ⟨(some 94), none, .act, .mv (.tmp 95)⟩])
        (.cond (.tmp 94)
         (.region [
           ⟨(some 96), none, .act, .mv (.tmp 0)⟩,
           ⟨(some 97), none, .act, .buildSl 1 [(.string ⟨#[]⟩)] 4 [(0, (.const (.string ⟨#[67, 79, 85, 78, 84]⟩))), (1, (.const (.string ⟨#[40]⟩))), (2, (.const (.string ⟨#[42]⟩))), (3, (.const (.string ⟨#[41]⟩)))]⟩,
           ⟨(some 98), none, .act, .call 23 [(.tmp 96), (.tmp 97)]⟩])
         .skip))))))))))))))
  (.seq (.region [
    ⟨(some 99), none, .act, .call 29 []⟩,
    ⟨(some 100), none, .act, .len (.tmp 99)⟩,
    ⟨(some 101), none, .act, .mv (.const (.int .i64 0))⟩])
  (.block 1
   (.loop r15l0))))))
theorem res15 : ∃ c, Try.f15.body = some c ∧ resCode Try.prog 124 c = some r15 := ⟨_, rfl, by kernel_rfl⟩
theorem rr15 : resRes Try.prog Try.f15.results.toList = some [] := by kernel_rfl
theorem fun_loop (op : Int) (t nm vs : List UInt8) (n vk vn : Int) (ars : List Pa.Ex) (l : List (List UInt8 × Int)) (hl : l.length ≤ 100) (hls : ∀ x ∈ l, x.1.length ≤ 100) (T : List (List UInt8))
    (hx : ∀ x ∈ l, x.2 = op → ∃ a pa, ars[0]? = some a ∧ T = txts pa ∧ PutE a pa) (p b3 : Nat) (h₀ : AHeap) (hb3 : h₀ b3 = none) (acc0 : List UInt8) : ∀ (m i : Nat) (h : AHeap) (acc : List UInt8), i + m = l.length →
    acc.length + sumL (aggT op T (l.drop i)) ≤ 1000000000000 → WAt (h₀.set b3 (.box (exA op t nm n vk vn vs (exs ars)))) p acc h →
    RRun Try.prog Try.f15 124 (.inLoop r15l0 :: .inBlock 1 :: []) (Env.get [(0, ptr p), (3, ptr b3), (99, sgsA l), (100, i64 l.length), (101, i64 i)]) h (fun _ h' => WAt h₀ p (putL acc (aggT op T (l.drop i))) h') := by
  intro m
  induction m with
  | zero =>
    intro i h acc hi hbd hw
    rw [List.drop_eq_nil_of_le (by omega)]
    refine RRun.inLoop ?_
    repeat' (first | refine S.nilK ?_ | (refine S.op rfl ?_; first | ((first | refine S.lss rfl rfl ?_ ?_) <;> intro hlt <;> try (exfalso; omega))) | refine S.seq ?_ | refine S.region ?_ | refine S.condF rfl ?_ | refine RRun.exit rfl ?_)
    apply S.done rr15
    case hx => repeat (first | exact ResAt.nil)
    exact hw.down hb3
  | succ m ih =>
    intro i h acc hi hbd hw
    have hie : i < l.length := by omega
    have h1 : (l.map sgA)[((i : Nat) : Int).toNat]? = some [str l[i].1, i64 l[i].2] := by simp [hie]
    have hd : l.drop i = l[i] :: l.drop (i + 1) := List.drop_eq_getElem_cons hie
    have hh3 := hw.at
    have hxi := hx _ (List.getElem_mem hie)
    have hli := hls _ (List.getElem_mem hie)
    have hsplit : aggT op T (l.drop i) = (if l[i].2 = op then [upper l[i].1, [40]] ++ T ++ [[41]] else []) ++ aggT op T (l.drop (i + 1)) := by rw [hd]; rfl
    rw [hsplit] at hbd ⊢
    have next := fun h acc => ih (i + 1) h acc (by omega)
    rw [show ((i + 1 : Nat) : Int) = (i : Int) + 1 by omega] at next
    clear ih hsplit hd
    generalize l[i] = x at *
    refine RRun.inLoop ?_
    unfold sgsA
    by_cases hop : x.2 = op
    · rw [if_pos hop] at hbd ⊢
      obtain ⟨a, pa, ha, rfl, hput⟩ := hxi hop
      have cu := fun h => upper_spec x.1 (by omega) h
      have cpart := part_spec (.mk op t nm n ⟨vk, vn, vs⟩ ars) 0 a ⟨_, _, _, _, _, _, rfl, ha⟩
      rw [Pa.Ex.cells_mk] at cpart
      rw [sumL_app, sumL_app, sumL_app] at hbd
      repeat' (first | refine S.nilK ?_ | (refine S.op rfl ?_; first | refine R.indexAddr rfl rfl (by omega) h1 ?_ | (show ROpS _ _ (.call 25 _) _ _ _; refine callN rfl rfl (cu _) rfl ?_) | refine R.mv rfl ?_ | refine R.fieldAddr rfl ?_ | refine R.loadR rfl rfl ?_ | refine R.load (by decide) rfl (by (repeat' (first | assumption | exact AHeap.set_same _ _ _ | refine AHeap.get_fresh ‹_› ?_)); first | done | fail) rfl ?_ | refine R.alloc rfl (fun b hb => ?_) | refine R.buildSl rfl rfl rfl (by decide) ?_ | ((first | refine S.lss rfl rfl ?_ ?_ | refine S.eqInt rfl rfl ?_ ?_) <;> intro hlt <;> try (exfalso; omega))) | (refine S.op0 rfl ?_; first | refine S.storeS rfl rfl rfl (by rfl) rfl (by first | decide | exact Nat.le_refl _ | exact Nat.le_of_ble_eq_true rfl) ?_) | refine S.seq ?_ | refine S.region ?_ | refine S.condT rfl ?_ | refine RRun.skip ?_ | refine RRun.block ?_)
      have hw1 := hw.up (o := .box [str x.1, i64 x.2]) ‹h _ = none›
      have cw := putw_spec [upper x.1, [40]] (by simp) .full p _ _ acc (by omega) hw1
      refine S.op rfl (R.call rfl rfl (cw.mono fun y h' hw' => ?_))
      have hw2 := hw'.down (hw.free ‹h _ = none›)
      have hh3' := hw2.at
      repeat' (first | refine S.nilK ?_ | (refine S.op rfl ?_; first | (show ROpS _ _ (.call 24 _) _ _ _; refine callN rfl rfl (cpart _) rfl ?_) | refine R.mv rfl ?_ | refine R.load (by decide) rfl (by (repeat' (first | assumption)); first | done | fail) rfl ?_) | refine S.seq ?_ | refine S.region ?_)
      have ce := hput p _ _ (putL acc [upper x.1, [40]]) (by have := putL_len [upper x.1, [40]] acc; omega) hw2
      obtain ⟨op1, t1, nm1, n1, ⟨vk1, vn1, vs1⟩, ars1⟩ := a
      refine S.op rfl (R.call rfl rfl (ce.mono fun y2 h2 hw3 => ?_))
      repeat' (first | refine S.nilK ?_ | (refine S.op rfl ?_; first | refine R.mv rfl ?_ | refine R.buildSl rfl rfl rfl (by decide) ?_) | refine S.region ?_)
      have cw2 := putw_spec [[41]] (by simp) .full p _ _ _ (by rw [putL_app2]; have := putL_len ([upper x.1, [40]] ++ txts pa) acc; rw [sumL_app] at this; omega) hw3
      refine S.op rfl (R.call rfl rfl (cw2.mono fun y3 h3 hw4 => ?_))
      repeat' (first | refine S.nilK ?_ | (refine S.op rfl ?_; first | refine R.mv rfl ?_ | refine S.addI rfl rfl (by omega) ?_) | refine S.region ?_ | refine RRun.inBlock ?_)
      rw [putL_app2, putL_app2] at hw4
      refine S.keep [0, 3, 99, 100, 101] rfl ?_
      have := next h3 _ (by have := putL_len ([upper x.1, [40]] ++ (txts pa ++ [[41]])) acc; rw [sumL_app, sumL_app] at this; omega) hw4
      rw [putL_app2] at this
      simp only [List.append_assoc] at this ⊢
      exact this
    · rw [if_neg hop] at hbd ⊢
      rw [List.nil_append] at hbd ⊢
      repeat' (first | refine S.nilK ?_ | (refine S.op rfl ?_; first | refine R.indexAddr rfl rfl (by omega) h1 ?_ | refine R.mv rfl ?_ | refine R.fieldAddr rfl ?_ | refine R.loadR rfl rfl ?_ | refine R.load (by decide) rfl (by (repeat' (first | assumption | exact AHeap.set_same _ _ _ | refine AHeap.get_fresh ‹_› ?_)); first | done | fail) rfl ?_ | refine S.addI rfl rfl (by omega) ?_ | refine R.alloc rfl (fun b hb => ?_) | ((first | refine S.lss rfl rfl ?_ ?_ | refine S.eqInt rfl rfl ?_ ?_) <;> intro hlt <;> try (exfalso; omega))) | (refine S.op0 rfl ?_; first | refine S.storeS rfl rfl rfl (by rfl) rfl (by first | decide | exact Nat.le_refl _ | exact Nat.le_of_ble_eq_true rfl) ?_) | refine S.seq ?_ | refine S.region ?_ | refine S.condT rfl ?_ | refine S.condF rfl ?_ | refine RRun.skip ?_ | refine RRun.block ?_ | refine RRun.inBlock ?_)
      refine S.keep [0, 3, 99, 100, 101] rfl (next _ acc hbd ?_)
      exact (hw.up (o := .box [str x.1, i64 x.2]) ‹h _ = none›).down (hw.free ‹h _ = none›)
end Go.Proofs.Ytdinnoejipmiiaa

namespace Go.Proofs.Ytdinnoejipmiiaa
open Go.Av
open Go.Av.Pa (Told Pc betw)
theorem txts_app (a b : List Pc) : txts (a ++ b) = txts a ++ txts b := List.map_append
theorem txts_cons (a : Pc) (b : List Pc) : txts (a :: b) = ptxt a :: txts b := rfl
theorem pt_null : ptxt (.word (Pa.bs "null")) = [78, 85, 76, 76] := by decide +kernel
theorem pt_not : ptxt (.word (Pa.bs "not")) = [78, 79, 84] := by decide +kernel
theorem pt_is : ptxt (.word (Pa.bs "is")) = [73, 83] := by decide +kernel
theorem pt_count : ptxt (.word (Pa.bs "count")) = [67, 79, 85, 78, 84] := by decide +kernel
theorem pt_open : ptxt (.mark (Pa.bs "(")) = [40] := by decide +kernel
theorem pt_close : ptxt Pa.closeP = [41] := by decide +kernel
theorem pt_minus : ptxt (.mark (Pa.bs "-")) = [45] := by decide +kernel
theorem pt_star : ptxt (.mark (Pa.bs "*")) = [42] := by decide +kernel
theorem pt_dot : ptxt (.mark (Pa.bs ".")) = [46] := by decide +kernel
theorem pt_name {s : List UInt8} (h : Pa.reserved s = false) : ptxt (.word s) = s := by unfold ptxt; simp only [h]; rfl
theorem betw_txt : ∀ x ∈ betw, (btwF x.1 Pa.levelsL).map upper = some (ptxt x.2.2) := by decide +kernel
theorem aggs_small : ∀ x ∈ Pa.aggsL, x.1.length ≤ 100 := by decide
theorem btw_some {x : Int × Nat × Pc} (h : x ∈ betw) : ∃ s, btwF x.1 Pa.levelsL = some s ∧ upper s = ptxt x.2.2 ∧ s.length ≤ 100 := by
  have h1 := betw_txt x h
  cases hb : btwF x.1 Pa.levelsL with
  | none => rw [hb] at h1; cases h1
  | some s =>
    rw [hb] at h1
    refine ⟨s, rfl, by simpa using h1, ?_⟩
    unfold btwF at hb
    rw [Option.map_eq_some_iff] at hb
    obtain ⟨y, hy, rfl⟩ := hb
    have := List.mem_of_find?_eq_some hy
    have hall : ∀ z ∈ Pa.levelsL.flatten, z.1.length ≤ 100 := by decide
    exact hall y this
theorem put_tail (op : Int) (t nm vs : List UInt8) (n vk vn : Int) (ars : List Pa.Ex) (hno : ∀ x ∈ Pa.aggsL, x.2 ≠ op) (p b3 : Nat) (h₀ h : AHeap) (hb3 : h₀ b3 = none) (acc : List UInt8) (hacc : acc.length ≤ 1000000000000)
    (hw : WAt (h₀.set b3 (.box (exA op t nm n vk vn vs (exs ars)))) p acc h) :
    RRun Try.prog Try.f15 124 [.code (.block 1 (.loop r15l0))] (Env.get [(0, ptr p), (3, ptr b3), (99, sgsA Pa.aggsL), (100, i64 (Pa.aggsL.map sgA).length), (101, i64 0)]) h (fun _ h' => WAt h₀ p acc h') := by
  have h0 : aggT op [] (Pa.aggsL.drop 0) = [] := by
    unfold aggT
    rw [List.flatMap_eq_nil_iff]
    intro x hx
    rw [if_neg (hno x hx)]
  have := fun_loop op t nm vs n vk vn ars Pa.aggsL (by decide) aggs_small [] (fun x hx e => absurd e (hno x hx)) p b3 h₀ hb3 acc 3 0 h acc rfl (by rw [h0]; exact hacc) hw
  rw [h0] at this
  refine RRun.block (RRun.loopIn this)
theorem put_lit (v : Pa.Val) (t : List UInt8) (ht : (v.kind = 1 ∧ 0 ≤ v.n ∧ v.n ≤ 9223372036854775807 ∧ t = numB v.n) ∨ (v.kind = 2 ∧ v.s.length ≤ 1000000 ∧ t = 39 :: (dbl v.s ++ [39])) ∨ (v.kind = 0 ∧ t = [78, 85, 76, 76]))
    (p : Nat) (h₀ h : AHeap) (acc : List UInt8) (hbd : acc.length + sumL [t] ≤ 1000000000000) (hw : WAt h₀ p acc h) :
    ACalls Try.prog 15 [ptr p, .ag (Pa.lit v).cells] h (fun _ h' => WAt h₀ p (putL acc [t]) h') := by
  obtain ⟨c, hc1, hc2⟩ := res15
  refine ACalls.enter Try.func15 hc1 Try.ntmps15 hc2 (Nat.le_of_ble_eq_true rfl) rfl ?_
  have cb := btw_spec 1
  rw [show btwA (btwF 1 Pa.levelsL) = .tu [str [], bl false] from rfl] at cb
  have cf := functions_spec
  obtain ⟨vk, vn, vs⟩ := v
  unfold Pa.lit
  rw [Pa.Ex.cells_mk]
  repeat' (first | refine S.nilK ?_ | (refine S.op rfl ?_; first | (show ROpS _ _ (.call 22 _) _ _ _; refine callN rfl rfl (cb _) rfl ?_) | refine R.mv rfl ?_ | refine R.fieldAddr rfl ?_ | refine R.load (by decide) rfl (by (repeat' (first | exact AHeap.set_same _ _ _)); first | done | fail) rfl ?_ | refine R.extract rfl rfl ?_ | refine R.box rfl rfl rfl (fun b hb => ?_) | ((first | refine S.eqInt rfl rfl ?_ ?_) <;> intro hlt <;> try (exfalso; omega))) | refine S.seq ?_ | refine S.region ?_ | refine S.condT rfl ?_ | refine S.condF rfl ?_ | refine RRun.skip ?_ | refine RRun.block ?_)
  have hw1 := hw.up (o := .box (exA 1 [] [] 0 vk vn vs (exs []))) ‹h _ = none›
  have cv := pval_spec ⟨vk, vn, vs⟩ t ht p _ _ acc hbd hw1
  refine S.op rfl (R.call rfl rfl (cv.mono fun y h' hw' => ?_))
  repeat' (first | ((show RRun _ _ _ [.code (.block 1 (.loop r15l0))] _ _ _; exact S.keep [0, 3, 99, 100, 101] rfl (put_tail 1 [] [] vs 0 vk vn [] (by decide) p _ h₀ _ (hw.free ‹h _ = none›) _ (putL_le hbd) hw'))) | refine S.nilK ?_ | (refine S.op rfl ?_; first | (show ROpS _ _ (.call 29 _) _ _ _; refine callN rfl rfl (cf _) rfl ?_) | refine R.mv rfl ?_ | refine R.len rfl ?_) | refine S.seq ?_ | refine S.region ?_ | refine RRun.inBlock ?_)
end Go.Proofs.Ytdinnoejipmiiaa

namespace Go.Proofs.Ytdinnoejipmiiaa
open Go.Av
open Go.Av.Pa (Told Pc betw)
theorem sum3 {acc : List UInt8} {a b c : List (List UInt8)} (h : acc.length + sumL (a ++ (b ++ c)) ≤ 1000000000000) :
    acc.length + sumL a ≤ 1000000000000 ∧ (putL acc a).length + sumL b ≤ 1000000000000 ∧ (putL (putL acc a) b).length + sumL c ≤ 1000000000000 := by
  rw [sumL_app, sumL_app] at h
  have h1 := putL_len a acc
  have h2 := putL_len b (putL acc a)
  omega
theorem sum2 {acc : List UInt8} {a b : List (List UInt8)} (h : acc.length + sumL (a ++ b) ≤ 1000000000000) :
    acc.length + sumL a ≤ 1000000000000 ∧ (putL acc a).length + sumL b ≤ 1000000000000 := by
  rw [sumL_app] at h
  have h1 := putL_len a acc
  omega
theorem put_col (nm : List UInt8) (hr : Pa.reserved nm = false) : PutE (.mk 2 [] nm 0 Pa.vz []) [.word nm] := by
  intro p h₀ h acc hbd hw
  have ht : txts [.word nm] = [nm] := by unfold txts; rw [List.map_cons, pt_name hr]; rfl
  rw [ht] at hbd ⊢
  clear ht hr
  obtain ⟨c, hc1, hc2⟩ := res15
  refine ACalls.enter Try.func15 hc1 Try.ntmps15 hc2 (Nat.le_of_ble_eq_true rfl) rfl ?_
  have cb := btw_spec 2
  rw [show btwA (btwF 2 Pa.levelsL) = .tu [str [], bl false] from rfl] at cb
  have cf := functions_spec
  have he : (([] : List UInt8) == []) = true := rfl
  unfold Pa.vz
  rw [Pa.Ex.cells_mk]
  repeat' (first | refine S.nilK ?_ | (refine S.op rfl ?_; first | (show ROpS _ _ (.call 22 _) _ _ _; refine callN rfl rfl (cb _) rfl ?_) | refine S.eqSv rfl rfl he ?_ | refine R.mv rfl ?_ | refine R.fieldAddr rfl ?_ | refine R.load (by decide) rfl (by (repeat' (first | exact AHeap.set_same _ _ _)); first | done | fail) rfl ?_ | refine R.extract rfl rfl ?_ | refine R.box rfl rfl rfl (fun b hb => ?_) | refine R.buildSl rfl rfl rfl (by decide) ?_ | ((first | refine S.eqInt rfl rfl ?_ ?_) <;> intro hlt <;> try (exfalso; omega))) | refine S.seq ?_ | refine S.region ?_ | refine S.condT rfl ?_ | refine S.condF rfl ?_ | refine RRun.skip ?_ | refine RRun.block ?_)
  have hw1 := hw.up (o := .box (exA 2 [] nm 0 0 0 [] (exs []))) ‹h _ = none›
  have cw := putw_spec [nm] (by simp) .full p _ _ acc hbd hw1
  refine S.op rfl (R.call rfl rfl (cw.mono fun y h' hw' => ?_))
  repeat' (first | ((show RRun _ _ _ [.code (.block 1 (.loop r15l0))] _ _ _; exact S.keep [0, 3, 99, 100, 101] rfl (put_tail 2 [] nm [] 0 0 0 [] (by decide) p _ h₀ _ (hw.free ‹h _ = none›) _ (putL_le hbd) hw'))) | refine S.nilK ?_ | (refine S.op rfl ?_; first | (show ROpS _ _ (.call 29 _) _ _ _; refine callN rfl rfl (cf _) rfl ?_) | refine R.mv rfl ?_ | refine R.len rfl ?_) | refine S.seq ?_ | refine S.region ?_ | refine RRun.inBlock ?_)
theorem put_qcol (t nm : List UInt8) (ht0 : t ≠ []) (htr : Pa.reserved t = false) (hr : Pa.reserved nm = false) : PutE (.mk 2 t nm 0 Pa.vz []) [.word t, .mark (Pa.bs "."), .word nm] := by
  intro p h₀ h acc hbd hw
  have ht : txts [.word t, .mark (Pa.bs "."), .word nm] = [t, [46]] ++ [nm] := by unfold txts; rw [List.map_cons, List.map_cons, List.map_cons, pt_name hr, pt_name htr, pt_dot]; rfl
  rw [ht] at hbd ⊢
  clear ht hr htr
  obtain ⟨b1, b2⟩ := sum2 hbd
  obtain ⟨c, hc1, hc2⟩ := res15
  refine ACalls.enter Try.func15 hc1 Try.ntmps15 hc2 (Nat.le_of_ble_eq_true rfl) rfl ?_
  have cb := btw_spec 2
  rw [show btwA (btwF 2 Pa.levelsL) = .tu [str [], bl false] from rfl] at cb
  have cf := functions_spec
  have he : (t == []) = false := by simpa using ht0
  unfold Pa.vz
  rw [Pa.Ex.cells_mk]
  repeat' (first | refine S.nilK ?_ | (refine S.op rfl ?_; first | (show ROpS _ _ (.call 22 _) _ _ _; refine callN rfl rfl (cb _) rfl ?_) | refine S.eqSv (b := []) rfl rfl he ?_ | refine R.mv rfl ?_ | refine R.fieldAddr rfl ?_ | refine R.load (by decide) rfl (by (repeat' (first | exact AHeap.set_same _ _ _)); first | done | fail) rfl ?_ | refine R.extract rfl rfl ?_ | refine R.box rfl rfl rfl (fun b hb => ?_) | refine R.buildSl rfl rfl rfl (by decide) ?_ | ((first | refine S.eqInt rfl rfl ?_ ?_) <;> intro hlt <;> try (exfalso; omega))) | refine S.seq ?_ | refine S.region ?_ | refine S.condT rfl ?_ | refine S.condF rfl ?_ | refine RRun.skip ?_ | refine RRun.block ?_)
  have hw1 := hw.up (o := .box (exA 2 t nm 0 0 0 [] (exs []))) ‹h _ = none›
  have cw := putw_spec [t, [46]] (by simp) .full p _ _ acc b1 hw1
  refine S.op rfl (R.call rfl rfl (cw.mono fun y h' hw' => ?_))
  have hh := hw'.at
  repeat' (first | refine S.nilK ?_ | (refine S.op rfl ?_; first | refine R.mv rfl ?_ | refine R.fieldAddr rfl ?_ | refine R.load (by decide) rfl (by (repeat' (first | assumption)); first | done | fail) rfl ?_ | refine R.buildSl rfl rfl rfl (by decide) ?_) | refine S.region ?_)
  have cw2 := putw_spec [nm] (by simp) .full p _ _ _ b2 hw'
  refine S.op rfl (R.call rfl rfl (cw2.mono fun y2 h2 hw2 => ?_))
  rw [putL_app2] at hw2
  repeat' (first | ((show RRun _ _ _ [.code (.block 1 (.loop r15l0))] _ _ _; exact S.keep [0, 3, 99, 100, 101] rfl (put_tail 2 t nm [] 0 0 0 [] (by decide) p _ h₀ _ (hw.free ‹h _ = none›) _ (putL_le hbd) hw2))) | refine S.nilK ?_ | (refine S.op rfl ?_; first | (show ROpS _ _ (.call 29 _) _ _ _; refine callN rfl rfl (cf _) rfl ?_) | refine R.mv rfl ?_ | refine R.len rfl ?_) | refine S.seq ?_ | refine S.region ?_ | refine RRun.inBlock ?_)
theorem put_count : PutE (Pa.opE 20 []) [.word (Pa.bs "count"), .mark (Pa.bs "("), .mark (Pa.bs "*"), Pa.closeP] := by
  intro p h₀ h acc hbd hw
  have ht : txts [.word (Pa.bs "count"), .mark (Pa.bs "("), .mark (Pa.bs "*"), Pa.closeP] = [[67, 79, 85, 78, 84], [40], [42], [41]] := by
    unfold txts; rw [List.map_cons, List.map_cons, List.map_cons, List.map_cons, pt_count, pt_open, pt_star, pt_close]; rfl
  rw [ht] at hbd ⊢
  clear ht
  obtain ⟨c, hc1, hc2⟩ := res15
  refine ACalls.enter Try.func15 hc1 Try.ntmps15 hc2 (Nat.le_of_ble_eq_true rfl) rfl ?_
  have cb := btw_spec 20
  rw [show btwA (btwF 20 Pa.levelsL) = .tu [str [], bl false] from rfl] at cb
  have cf := functions_spec
  unfold Pa.opE Pa.vz
  rw [Pa.Ex.cells_mk]
  repeat' (first | refine S.nilK ?_ | (refine S.op rfl ?_; first | (show ROpS _ _ (.call 22 _) _ _ _; refine callN rfl rfl (cb _) rfl ?_) | refine R.mv rfl ?_ | refine R.fieldAddr rfl ?_ | refine R.load (by decide) rfl (by (repeat' (first | exact AHeap.set_same _ _ _)); first | done | fail) rfl ?_ | refine R.extract rfl rfl ?_ | refine R.box rfl rfl rfl (fun b hb => ?_) | refine R.buildSl rfl rfl rfl (by decide) ?_ | ((first | refine S.eqInt rfl rfl ?_ ?_) <;> intro hlt <;> try (exfalso; omega))) | refine S.seq ?_ | refine S.region ?_ | refine S.condT rfl ?_ | refine S.condF rfl ?_ | refine RRun.skip ?_ | refine RRun.block ?_)
  have hw1 := hw.up (o := .box (exA 20 [] [] 0 0 0 [] (exs []))) ‹h _ = none›
  have cw := putw_spec [[67, 79, 85, 78, 84], [40], [42], [41]] (by simp) .full p _ _ acc hbd hw1
  refine S.op rfl (R.call rfl rfl (cw.mono fun y h' hw' => ?_))
  repeat' (first | ((show RRun _ _ _ [.code (.block 1 (.loop r15l0))] _ _ _; exact S.keep [0, 3, 99, 100, 101] rfl (put_tail 20 [] [] [] 0 0 0 [] (by decide) p _ h₀ _ (hw.free ‹h _ = none›) _ (putL_le hbd) hw'))) | refine S.nilK ?_ | (refine S.op rfl ?_; first | (show ROpS _ _ (.call 29 _) _ _ _; refine callN rfl rfl (cf _) rfl ?_) | refine R.mv rfl ?_ | refine R.len rfl ?_) | refine S.seq ?_ | refine S.region ?_ | refine RRun.inBlock ?_)
theorem put_ahead (op : Int) (hop : op = 4 ∨ op = 16) (w : Pc) (hw0 : ptxt w = if op = 4 then [45] else [78, 79, 84]) (a : Pa.Ex) (pa : List Pc) (ha : PutE a pa) : PutE (Pa.opE op [a]) (.mark (Pa.bs "(") :: w :: pa ++ [Pa.closeP]) := by
  intro p h₀ h acc hbd hw
  have ht : txts (.mark (Pa.bs "(") :: w :: pa ++ [Pa.closeP]) = [[40], if op = 4 then [45] else [78, 79, 84]] ++ (txts pa ++ [[41]]) := by
    rw [List.cons_append, List.cons_append, txts_cons, txts_cons, txts_app, pt_open, hw0]
    unfold txts; rw [List.map_cons, pt_close]; rfl
  rw [ht] at hbd ⊢
  clear ht hw0
  obtain ⟨b1, b2, b3⟩ := sum3 hbd
  obtain ⟨c, hc1, hc2⟩ := res15
  refine ACalls.enter Try.func15 hc1 Try.ntmps15 hc2 (Nat.le_of_ble_eq_true rfl) rfl ?_
  have cb := btw_spec op
  have hbn : btwA (btwF op Pa.levelsL) = .tu [str [], bl false] := by rcases hop with rfl | rfl <;> rfl
  rw [hbn] at cb
  clear hbn
  have cf := functions_spec
  have ca := ahead_spec op
  have hno : ∀ x ∈ Pa.aggsL, x.2 ≠ op := by rcases hop with rfl | rfl <;> decide
  have cpart := part_spec (Pa.opE op [a]) 0 a ⟨_, _, _, _, _, _, rfl, rfl⟩
  unfold Pa.opE Pa.vz at cpart ⊢
  rw [Pa.Ex.cells_mk] at cpart ⊢
  repeat' (first | refine S.nilK ?_ | (refine S.op rfl ?_; first | (show ROpS _ _ (.call 22 _) _ _ _; refine callN rfl rfl (cb _) rfl ?_) | (show ROpS _ _ (.call 28 _) _ _ _; refine callN rfl rfl (ca _) rfl ?_) | refine R.mv rfl ?_ | refine R.fieldAddr rfl ?_ | refine R.load (by decide) rfl (by (repeat' (first | exact AHeap.set_same _ _ _)); first | done | fail) rfl ?_ | refine R.extract rfl rfl ?_ | refine R.box rfl rfl rfl (fun b hb => ?_) | refine R.buildSl rfl rfl rfl (by decide) ?_ | ((first | refine S.eqInt rfl rfl ?_ ?_) <;> intro hlt <;> try (exfalso; omega))) | refine S.seq ?_ | refine S.region ?_ | refine S.condT rfl ?_ | refine S.condF rfl ?_ | refine RRun.skip ?_ | refine RRun.block ?_)
  all_goals
    have hw1 := hw.up (o := .box (exA op [] [] 0 0 0 [] (exs [a]))) ‹h _ = none›
    have cw := putw_spec [[40], if op = 4 then [45] else [78, 79, 84]] (by simp) .full p _ _ acc b1 hw1
    refine S.op rfl (R.call rfl rfl (cw.mono fun y h' hw' => ?_))
    have hh := hw'.at
    repeat' (first | refine S.nilK ?_ | (refine S.op rfl ?_; first | (show ROpS _ _ (.call 24 _) _ _ _; refine callN rfl rfl (cpart _) rfl ?_) | refine R.mv rfl ?_ | refine R.load (by decide) rfl (by (repeat' (first | assumption)); first | done | fail) rfl ?_) | refine S.seq ?_ | refine S.region ?_)
    refine S.op rfl (R.call rfl rfl ((ha p _ _ _ b2 hw').mono fun y2 h2 hw2 => ?_))
    have hh2 := hw2.at
    repeat' (first | refine S.nilK ?_ | (refine S.op rfl ?_; first | refine R.mv rfl ?_ | refine R.buildSl rfl rfl rfl (by decide) ?_) | refine S.region ?_)
    refine S.op rfl (R.call rfl rfl ((putw_spec [[41]] (by simp) .full p _ _ _ b3 hw2).mono fun y3 h3 hw3 => ?_))
    rw [putL_app2, putL_app2] at hw3
    repeat' (first | ((show RRun _ _ _ [.code (.block 1 (.loop r15l0))] _ _ _; exact S.keep [0, 3, 99, 100, 101] rfl (put_tail op [] [] [] 0 0 0 [a] hno p _ h₀ _ (hw.free ‹h _ = none›) _ (putL_le hbd) hw3))) | refine S.nilK ?_ | (refine S.op rfl ?_; first | (show ROpS _ _ (.call 29 _) _ _ _; refine callN rfl rfl (cf _) rfl ?_) | refine R.mv rfl ?_ | refine R.len rfl ?_) | refine S.seq ?_ | refine S.region ?_ | refine RRun.inBlock ?_)
end Go.Proofs.Ytdinnoejipmiiaa

namespace Go.Proofs.Ytdinnoejipmiiaa
open Go.Av
open Go.Av.Pa (Told Pc betw)
theorem put_isnull (a : Pa.Ex) (pa : List Pc) (ha : PutE a pa) : PutE (Pa.opE 19 [a]) (.mark (Pa.bs "(") :: pa ++ [.word (Pa.bs "is"), .word (Pa.bs "null"), Pa.closeP]) := by
  intro p h₀ h acc hbd hw
  have ht : txts (.mark (Pa.bs "(") :: pa ++ [.word (Pa.bs "is"), .word (Pa.bs "null"), Pa.closeP]) = [[40]] ++ (txts pa ++ [[73, 83], [78, 85, 76, 76], [41]]) := by
    rw [List.cons_append, txts_cons, txts_app, pt_open]
    have : txts [.word (Pa.bs "is"), .word (Pa.bs "null"), Pa.closeP] = [[73, 83], [78, 85, 76, 76], [41]] := by
      unfold txts; rw [List.map_cons, List.map_cons, List.map_cons, pt_close, pt_is, pt_null]; rfl
    rw [this]; rfl
  rw [ht] at hbd ⊢
  clear ht
  obtain ⟨b1, b2, b3⟩ := sum3 hbd
  obtain ⟨c, hc1, hc2⟩ := res15
  refine ACalls.enter Try.func15 hc1 Try.ntmps15 hc2 (Nat.le_of_ble_eq_true rfl) rfl ?_
  have cb := btw_spec 19
  rw [show btwA (btwF 19 Pa.levelsL) = .tu [str [], bl false] from rfl] at cb
  have cf := functions_spec
  have cpart := part_spec (Pa.opE 19 [a]) 0 a ⟨_, _, _, _, _, _, rfl, rfl⟩
  unfold Pa.opE Pa.vz at cpart ⊢
  rw [Pa.Ex.cells_mk] at cpart ⊢
  repeat' (first | refine S.nilK ?_ | (refine S.op rfl ?_; first | (show ROpS _ _ (.call 22 _) _ _ _; refine callN rfl rfl (cb _) rfl ?_) | refine R.mv rfl ?_ | refine R.fieldAddr rfl ?_ | refine R.load (by decide) rfl (by (repeat' (first | exact AHeap.set_same _ _ _)); first | done | fail) rfl ?_ | refine R.extract rfl rfl ?_ | refine R.box rfl rfl rfl (fun b hb => ?_) | refine R.buildSl rfl rfl rfl (by decide) ?_ | ((first | refine S.eqInt rfl rfl ?_ ?_) <;> intro hlt <;> try (exfalso; omega))) | refine S.seq ?_ | refine S.region ?_ | refine S.condT rfl ?_ | refine S.condF rfl ?_ | refine RRun.skip ?_ | refine RRun.block ?_)
  have hw1 := hw.up (o := .box (exA 19 [] [] 0 0 0 [] (exs [a]))) ‹h _ = none›
  have cw := putw_spec [[40]] (by simp) .full p _ _ acc b1 hw1
  refine S.op rfl (R.call rfl rfl (cw.mono fun y h' hw' => ?_))
  have hh := hw'.at
  repeat' (first | refine S.nilK ?_ | (refine S.op rfl ?_; first | (show ROpS _ _ (.call 24 _) _ _ _; refine callN rfl rfl (cpart _) rfl ?_) | refine R.mv rfl ?_ | refine R.load (by decide) rfl (by (repeat' (first | assumption)); first | done | fail) rfl ?_) | refine S.seq ?_ | refine S.region ?_)
  refine S.op rfl (R.call rfl rfl ((ha p _ _ _ b2 hw').mono fun y2 h2 hw2 => ?_))
  have hh2 := hw2.at
  repeat' (first | refine S.nilK ?_ | (refine S.op rfl ?_; first | refine R.mv rfl ?_ | refine R.buildSl rfl rfl rfl (by decide) ?_) | refine S.region ?_)
  refine S.op rfl (R.call rfl rfl ((putw_spec [[73, 83], [78, 85, 76, 76], [41]] (by simp) .full p _ _ _ b3 hw2).mono fun y3 h3 hw3 => ?_))
  rw [putL_app2, putL_app2] at hw3
  repeat' (first | ((show RRun _ _ _ [.code (.block 1 (.loop r15l0))] _ _ _; exact S.keep [0, 3, 99, 100, 101] rfl (put_tail 19 [] [] [] 0 0 0 [a] (by decide) p _ h₀ _ (hw.free ‹h _ = none›) _ (putL_le hbd) hw3))) | refine S.nilK ?_ | (refine S.op rfl ?_; first | (show ROpS _ _ (.call 29 _) _ _ _; refine callN rfl rfl (cf _) rfl ?_) | refine R.mv rfl ?_ | refine R.len rfl ?_) | refine S.seq ?_ | refine S.region ?_ | refine RRun.inBlock ?_)
theorem put_agg (s : List UInt8) (op : Int) (hm : (s, op) ∈ Pa.aggs) (a : Pa.Ex) (pa : List Pc) (ha : PutE a pa) : PutE (Pa.opE op [a]) (.word s :: .mark (Pa.bs "(") :: pa ++ [Pa.closeP]) := by
  intro p h₀ h acc hbd hw
  rw [Pa.aggs_eq] at hm
  have hs : ptxt (.word s) = upper s ∧ aggT op (txts pa) (Pa.aggsL.drop 0) = [upper s, [40]] ++ txts pa ++ [[41]] ∧ btwF op Pa.levelsL = none ∧ (op = 21 ∨ op = 22 ∨ op = 23) := by
    simp only [Pa.aggsL, List.mem_cons, Prod.mk.injEq, List.not_mem_nil, or_false] at hm
    rcases hm with ⟨rfl, rfl⟩ | ⟨rfl, rfl⟩ | ⟨rfl, rfl⟩
    · exact ⟨by decide +kernel, by simp [aggT, Pa.aggsL], rfl, by simp⟩
    · exact ⟨by decide +kernel, by simp [aggT, Pa.aggsL], rfl, by simp⟩
    · exact ⟨by decide +kernel, by simp [aggT, Pa.aggsL], rfl, by simp⟩
  obtain ⟨hs1, hs2, hs3, hs4⟩ := hs
  have ht : txts (.word s :: .mark (Pa.bs "(") :: pa ++ [Pa.closeP]) = [upper s, [40]] ++ txts pa ++ [[41]] := by
    rw [List.cons_append, List.cons_append, txts_cons, txts_cons, txts_app, pt_open, hs1]
    unfold txts; rw [List.map_cons, pt_close]; simp
  rw [ht, ← hs2] at hbd ⊢
  clear ht hs2 hs1
  obtain ⟨c, hc1, hc2⟩ := res15
  refine ACalls.enter Try.func15 hc1 Try.ntmps15 hc2 (Nat.le_of_ble_eq_true rfl) rfl ?_
  have cb := btw_spec op
  rw [show btwA (btwF op Pa.levelsL) = .tu [str [], bl false] by rw [hs3]; rfl] at cb
  clear hs3
  have cf := functions_spec
  have loop := fun b3 hb3 h hw => fun_loop op [] [] [] 0 0 0 [a] Pa.aggsL (by decide) aggs_small (txts pa) (fun x hx e => ⟨a, pa, rfl, rfl, ha⟩) p b3 h₀ hb3 acc 3 0 h acc rfl hbd hw
  unfold Pa.opE Pa.vz
  rw [Pa.Ex.cells_mk]
  repeat' (first | ((show RRun _ _ _ [.code (.block 1 (.loop r15l0))] _ _ _; exact S.keep [0, 3, 99, 100, 101] rfl (RRun.block (RRun.loopIn (loop _ (hw.free ‹h _ = none›) _ (hw.up (o := .box (exA op [] [] 0 0 0 [] (exs [a]))) ‹h _ = none›)))))) | refine S.nilK ?_ | (refine S.op rfl ?_; first | (show ROpS _ _ (.call 22 _) _ _ _; refine callN rfl rfl (cb _) rfl ?_) | (show ROpS _ _ (.call 29 _) _ _ _; refine callN rfl rfl (cf _) rfl ?_) | refine R.mv rfl ?_ | refine R.fieldAddr rfl ?_ | refine R.load (by decide) rfl (by (repeat' (first | exact AHeap.set_same _ _ _)); first | done | fail) rfl ?_ | refine R.len rfl ?_ | refine R.extract rfl rfl ?_ | refine R.box rfl rfl rfl (fun b hb => ?_) | ((first | refine S.eqInt rfl rfl ?_ ?_) <;> intro hlt <;> try (exfalso; omega))) | refine S.seq ?_ | refine S.region ?_ | refine S.condF rfl ?_ | refine RRun.skip ?_ | refine RRun.block ?_ | refine RRun.inBlock ?_)
theorem put_bin (op : Int) (lv : Nat) (w : Pc) (hm : (op, lv, w) ∈ betw) (a e2 : Pa.Ex) (pa pb : List Pc) (ha : PutE a pa) (he2 : PutE e2 pb) : PutE (Pa.opE op [a, e2]) (.mark (Pa.bs "(") :: pa ++ w :: pb ++ [Pa.closeP]) := by
  intro p h₀ h acc hbd hw
  obtain ⟨s, hs1, hs2, hs3⟩ := btw_some hm
  simp only at hs1 hs2
  have ht : txts (.mark (Pa.bs "(") :: pa ++ w :: pb ++ [Pa.closeP]) = [[40]] ++ (txts pa ++ ([upper s] ++ (txts pb ++ [[41]]))) := by
    rw [txts_app, List.cons_append, txts_cons, txts_app, txts_cons, pt_open, ← hs2]
    have : txts [Pa.closeP] = [[41]] := by unfold txts; rw [List.map_cons, pt_close]; rfl
    rw [this]; simp
  rw [ht] at hbd ⊢
  clear ht hs2 hm
  obtain ⟨b1, b2, b3⟩ := sum3 hbd
  obtain ⟨b3, b4, b5⟩ := sum3 b3
  obtain ⟨c, hc1, hc2⟩ := res15
  refine ACalls.enter Try.func15 hc1 Try.ntmps15 hc2 (Nat.le_of_ble_eq_true rfl) rfl ?_
  have cb := btw_spec op
  rw [show btwA (btwF op Pa.levelsL) = .tu [str s, bl true] by rw [hs1]; rfl] at cb
  clear hs1
  have cu := fun h => upper_spec s (by omega) h
  have cpart := part_spec (Pa.opE op [a, e2]) 0 a ⟨_, _, _, _, _, _, rfl, rfl⟩
  have cpart2 := part_spec (Pa.opE op [a, e2]) 1 e2 ⟨_, _, _, _, _, _, rfl, rfl⟩
  unfold Pa.opE Pa.vz at cpart cpart2 ⊢
  rw [Pa.Ex.cells_mk] at cpart cpart2 ⊢
  repeat' (first | refine S.nilK ?_ | (refine S.op rfl ?_; first | (show ROpS _ _ (.call 22 _) _ _ _; refine callN rfl rfl (cb _) rfl ?_) | refine R.mv rfl ?_ | refine R.fieldAddr rfl ?_ | refine R.load (by decide) rfl (by (repeat' (first | exact AHeap.set_same _ _ _)); first | done | fail) rfl ?_ | refine R.extract rfl rfl ?_ | refine R.box rfl rfl rfl (fun b hb => ?_) | refine R.buildSl rfl rfl rfl (by decide) ?_) | refine S.seq ?_ | refine S.region ?_ | refine S.condT rfl ?_)
  have hw1 := hw.up (o := .box (exA op [] [] 0 0 0 [] (exs [a, e2]))) hb
  refine S.op rfl (R.call rfl rfl ((putw_spec [[40]] (by simp) .full p _ _ acc b1 hw1).mono fun y h' hw' => ?_))
  have hh := hw'.at
  repeat' (first | refine S.nilK ?_ | (refine S.op rfl ?_; first | (show ROpS _ _ (.call 24 [_, (.const (.int .i64 0))]) _ _ _; refine callN rfl rfl (cpart _) rfl ?_) | refine R.mv rfl ?_ | refine R.load (by decide) rfl (by (repeat' (first | assumption)); first | done | fail) rfl ?_) | refine S.seq ?_ | refine S.region ?_)
  refine S.op rfl (R.call rfl rfl ((ha p _ _ _ b2 hw').mono fun y2 h2 hw2 => ?_))
  have hh2 := hw2.at
  repeat' (first | refine S.nilK ?_ | (refine S.op rfl ?_; first | (show ROpS _ _ (.call 25 _) _ _ _; refine callN rfl rfl (cu _) rfl ?_) | refine R.mv rfl ?_ | refine R.buildSl rfl rfl rfl (by decide) ?_) | refine S.seq ?_ | refine S.region ?_)
  refine S.op rfl (R.call rfl rfl ((putw_spec [upper s] (by simp) .full p _ _ _ b3 hw2).mono fun y3 h3 hw3 => ?_))
  have hh3 := hw3.at
  repeat' (first | refine S.nilK ?_ | (refine S.op rfl ?_; first | (show ROpS _ _ (.call 24 [_, (.const (.int .i64 1))]) _ _ _; refine callN rfl rfl (cpart2 _) rfl ?_) | refine R.mv rfl ?_ | refine R.load (by decide) rfl (by (repeat' (first | assumption)); first | done | fail) rfl ?_) | refine S.seq ?_ | refine S.region ?_)
  refine S.op rfl (R.call rfl rfl ((he2 p _ _ _ b4 hw3).mono fun y4 h4 hw4 => ?_))
  have hh4 := hw4.at
  repeat' (first | refine S.nilK ?_ | (refine S.op rfl ?_; first | refine R.mv rfl ?_ | refine R.buildSl rfl rfl rfl (by decide) ?_) | refine S.seq ?_ | refine S.region ?_)
  refine S.op rfl (R.call rfl rfl ((putw_spec [[41]] (by simp) .full p _ _ _ b5 hw4).mono fun y5 h5 hw5 => ?_))
  rw [putL_app2, putL_app2, putL_app2, putL_app2] at hw5
  repeat' (first | refine S.nilK ?_)
  apply S.ret rr15
  case hx => repeat (first | exact ResAt.nil)
  exact hw5.down (hw.free hb)
end Go.Proofs.Ytdinnoejipmiiaa

namespace Go.Proofs.Ytdinnoejipmiiaa
open Go.Av
def _root_.Go.Av.Pa.Tok.key (t : Tok) : Int × List UInt8 × Int := (t.kind, t.s, t.n)
def GoodWord (s : List UInt8) : Prop := (∃ c r, s = c :: r ∧ isLetter c = true) ∧ ∀ c ∈ s, isWord c = true ∧ isUpper c = false
inductive Good : Tok → Prop
  | word (s : List UInt8) (pos : Int) : GoodWord s → Good ⟨1, s, 0, pos⟩
  | number (m : Nat) (pos : Int) : m ≤ 9223372036854775807 → Good ⟨2, [], m, pos⟩
  | quoted (s : List UInt8) (pos : Int) : s.length ≤ 1000 → Good ⟨3, s, 0, pos⟩
  | mark (c : UInt8) (pos : Int) : marksL.contains c = true → Good ⟨4, [c], 0, pos⟩
  | pair (c d : UInt8) (pos : Int) : pair c d = true → Good ⟨4, [c, d], 0, pos⟩
theorem isWord_small {c : UInt8} (h : isWord c = true) : isWord (small c) = true ∧ isUpper (small c) = false := by
  by_cases hu : 65 ≤ c.toNat ∧ c.toNat ≤ 90
  · have := small_up hu.1 hu.2
    simp only [isWord, isLetter, isDigit, isUpper, this, Bool.or_eq_true, decide_eq_true_eq, decide_eq_false_iff_not]
    omega
  · rw [small_not hu]
    refine ⟨h, ?_⟩
    simp only [isUpper, decide_eq_false_iff_not]
    exact hu
theorem isLetter_small {c : UInt8} (h : isLetter c = true) : isLetter (small c) = true := by
  by_cases hu : 65 ≤ c.toNat ∧ c.toNat ≤ 90
  · have := small_up hu.1 hu.2
    simp only [isLetter, this, decide_eq_true_eq]
    omega
  · rw [small_not hu]; exact h
theorem small_low {c : UInt8} (h : isUpper c = false) : small c = c := by
  simp [small, h]
theorem goodWord_of {t : List UInt8} {c : UInt8} {r : List UInt8} (ht : t = c :: r) (hc : isLetter c = true) : GoodWord ((wordOf t).map small) := by
  subst ht
  have hw : isWord c = true := by simp [isWord, hc]
  constructor
  · refine ⟨small c, (wordOf r).map small, ?_, isLetter_small hc⟩
    simp [wordOf, hw]
  · intro x hx
    simp only [List.mem_map] at hx
    obtain ⟨y, hy, rfl⟩ := hx
    exact isWord_small (List.all_eq_true.1 List.all_takeWhile y hy)
theorem numStep_good {a : Int} {c : UInt8} (hc : isDigit c = true) (h0 : 0 ≤ a) : ∀ b, numStep (some a) c = some b → 0 ≤ b ∧ b ≤ 9223372036854775807 := by
  intro b hb
  have := isDigit_spec hc
  simp only [numStep] at hb
  split at hb
  · split at hb
    · simp only [Option.some.injEq] at hb
      omega
    · cases hb
  · cases hb
theorem num_none : ∀ (l : List UInt8), l.foldl numStep none = none
  | [] => rfl
  | c :: l => num_none l
theorem num_good : ∀ (l : List UInt8) (a : Int), (∀ c ∈ l, isDigit c = true) → 0 ≤ a ∧ a ≤ 9223372036854775807 → ∀ b, l.foldl numStep (some a) = some b → 0 ≤ b ∧ b ≤ 9223372036854775807
  | [], a, _, ha, b, hb => by simp at hb; omega
  | c :: l, a, hl, ha, b, hb => by
    rw [List.foldl_cons] at hb
    cases hs : numStep (some a) c with
    | none => rw [hs, num_none] at hb; cases hb
    | some a' =>
      rw [hs] at hb
      exact num_good l a' (fun x hx => hl x (List.mem_cons_of_mem _ hx)) (numStep_good (hl c (by simp)) ha.1 a' hs) b hb
theorem nextR_good (t : List UInt8) (ht : t ≠ []) (hb : (nextR t).2.1 = true) (pos : Int) : Good { (nextR t).1 with pos := pos } := by
  match t, ht with
  | c :: r, _ =>
    unfold nextR at hb ⊢
    simp only at hb ⊢
    split at hb
    · rename_i hc
      rw [if_pos hc]
      exact .word _ _ (goodWord_of rfl hc)
    · rename_i hc
      rw [if_neg hc]
      split at hb
      · rename_i hd
        rw [if_pos hd]
        simp only at hb ⊢
        cases hn : numO (c :: r) with
        | none => rw [hn] at hb; cases hb
        | some n =>
          have := num_good (digits (c :: r)) 0 (fun x hx => List.all_eq_true.1 List.all_takeWhile x hx) (by omega) n hn
          obtain ⟨m, rfl⟩ : ∃ m : Nat, n = (m : Int) := ⟨n.natAbs, by omega⟩
          exact .number m _ (by omega)
      · rename_i hd
        rw [if_neg hd]
        split at hb
        · rename_i hq
          rw [if_pos hq]
          cases hqr : quo r with
          | none => rw [hqr] at hb; cases hb
          | some ln =>
            obtain ⟨l, n⟩ := ln
            rw [hqr] at hb
            simp only [decide_eq_true_eq] at hb
            exact .quoted l _ hb
        · rename_i hq
          rw [if_neg hq]
          simp only at hb ⊢
          match r with
          | [] =>
            simp only [markP] at hb ⊢
            exact .mark c _ hb
          | d :: r' =>
            simp only [markP] at hb ⊢
            split at hb
            · rename_i hp
              rw [if_pos hp]
              exact .pair c d _ hp
            · rename_i hp
              rw [if_neg hp]
              exact .mark c _ hb
theorem cutF_good : ∀ (f : Nat) (t : List UInt8) (i n : Nat), ∀ x ∈ (cutF f t i n).1, Good x ∧ x.s.length ≤ t.length := by
  intro f
  induction f with
  | zero => intro t i n x hx; simp [cutF] at hx
  | succ f ih =>
    intro t i n x hx
    by_cases h1 : t.drop (blanks t) = []
    · rw [cutF_end h1] at hx; simp at hx
    · by_cases h2 : n = 400
      · rw [cutF_long h1 h2] at hx; simp at hx
      · cases h3 : (nextR (t.drop (blanks t))).2.1 with
        | false => rw [cutF_bad h1 h2 h3] at hx; simp at hx
        | true =>
          rw [cutF_tok h1 h2 h3] at hx
          simp only [List.mem_cons] at hx
          rcases hx with rfl | hx
          · refine ⟨nextR_good _ h1 h3 _, ?_⟩
            have hd : (t.drop (blanks t)).length ≤ t.length := by simp
            refine Nat.le_trans ?_ hd
            generalize t.drop (blanks t) = u at h1 h3
            match u, h1 with
            | c :: r, _ =>
              simp only [nextR] at h3 ⊢
              split
              · simp only [List.length_map]; exact takeWhile_le _
              · rename_i hc
                rw [if_neg hc] at h3
                split
                · simp
                · rename_i hd
                  rw [if_neg hd] at h3
                  split
                  · rename_i hq
                    rw [if_pos hq] at h3
                    cases hqr : quo r with
                    | none => rw [hqr] at h3; cases h3
                    | some ln =>
                      obtain ⟨l, m⟩ := ln
                      have := quo_len _ r (Nat.le_refl _) l m hqr
                      simp only [List.length_cons]; omega
                  · match r with
                    | [] => simp [markP]
                    | d :: r' => simp only [markP]; split <;> simp
          · have := ih _ _ _ x hx
            refine ⟨this.1, Nat.le_trans this.2 ?_⟩
            simp
def Behind (r : List UInt8) : Prop := r = [] ∨ ∃ r', r = 32 :: r'
theorem behind_no {p : UInt8 → Bool} (hp : p 32 = false) {r : List UInt8} (hr : Behind r) : r.takeWhile p = [] := by
  rcases hr with rfl | ⟨r', rfl⟩
  · rfl
  · rw [List.takeWhile_cons, hp]; rfl
theorem takeWhile_behind {p : UInt8 → Bool} (hp : p 32 = false) {s r : List UInt8} (hr : Behind r) (hs : ∀ c ∈ s, p c = true) : (s ++ r).takeWhile p = s := by
  rw [List.takeWhile_append_of_pos hs, behind_no hp hr, List.append_nil]
theorem isDigit_digit {d : Nat} (h : d < 10) : isDigit (UInt8.ofNat (48 + d)) = true := by
  simp only [isDigit, u8_digit h, decide_eq_true_eq]; omega
theorem dec_digits : ∀ (f m : Nat), m < f → (∀ c ∈ dec m, isDigit c = true) ∧ (m ≤ 9223372036854775807 → (dec m).foldl numStep (some 0) = some (m : Int)) := by
  intro f
  induction f with
  | zero => intro m h; omega
  | succ f ih =>
    intro m hm
    by_cases h1 : m < 10
    · rw [dec_small h1]
      refine ⟨fun c hc => ?_, fun hb => ?_⟩
      · simp only [List.mem_singleton] at hc; subst hc; exact isDigit_digit h1
      · simp only [List.foldl_cons, List.foldl_nil, numStep, u8_digit h1]
        rw [if_pos (by omega), if_pos (by omega)]
        congr 1; omega
    · rw [dec_big h1]
      have hi := ih (m / 10) (by omega)
      have hd : m % 10 < 10 := Nat.mod_lt _ (by decide)
      refine ⟨fun c hc => ?_, fun hb => ?_⟩
      · rcases List.mem_append.1 hc with hc | hc
        · exact hi.1 c hc
        · simp only [List.mem_singleton] at hc; subst hc; exact isDigit_digit hd
      · rw [List.foldl_append, hi.2 (by omega)]
        simp only [List.foldl_cons, List.foldl_nil, numStep, u8_digit hd]
        rw [if_pos (by omega), if_pos (by omega)]
        congr 1; omega
theorem quo_dbl : ∀ (s r : List UInt8), Behind r → quo (dbl s ++ 39 :: r) = some (s, (dbl s).length + 1)
  | [], r, hr => by
    show quo (39 :: r) = some ([], 1)
    rcases hr with rfl | ⟨r', rfl⟩
    · exact quo_end
    · exact quo_stop r' (by decide)
  | c :: s, r, hr => by
    have ih := quo_dbl s r hr
    have e : dbl (c :: s) = (if c = 39 then [39, 39] else [c]) ++ dbl s := rfl
    by_cases hc : c = 39
    · subst hc
      rw [e, if_pos rfl]
      show quo (39 :: 39 :: (dbl s ++ 39 :: r)) = _
      rw [quo_two, ih]
      simp
    · rw [e, if_neg hc]
      show quo (c :: (dbl s ++ 39 :: r)) = _
      rw [quo_ne _ hc, ih]
      simp
theorem mark_facts {c : UInt8} (h : marksL.contains c = true) : isLetter c = false ∧ isDigit c = false ∧ c ≠ 39 ∧ isBlank c = false ∧ Go.Proofs.Ytdinnoejipmiiaa.pair c 32 = false := by
  simp only [marksL, List.contains_eq_mem, List.mem_cons, List.not_mem_nil, or_false, decide_eq_true_eq] at h
  rcases h with rfl | rfl | rfl | rfl | rfl | rfl | rfl | rfl | rfl | rfl | rfl | rfl <;> decide
theorem pair_facts {c d : UInt8} (h : Go.Proofs.Ytdinnoejipmiiaa.pair c d = true) : isLetter c = false ∧ isDigit c = false ∧ c ≠ 39 ∧ isBlank c = false := by
  simp only [Go.Proofs.Ytdinnoejipmiiaa.pair, Bool.or_eq_true, Bool.and_eq_true, beq_iff_eq] at h
  rcases h with (⟨rfl, _⟩ | ⟨rfl, _⟩) | ⟨rfl, _⟩ <;> decide
theorem letter_facts {c : UInt8} (h : isLetter c = true) : isBlank c = false := by
  simp only [isLetter, decide_eq_true_eq] at h
  simp only [isBlank, decide_eq_false_iff_not]; omega
theorem digit_facts {c : UInt8} (h : isDigit c = true) : isLetter c = false ∧ isBlank c = false := by
  simp only [isDigit, decide_eq_true_eq] at h
  simp only [isLetter, isBlank, decide_eq_false_iff_not]; omega
theorem nextR_back {t : Tok} (hg : Good t) (r : List UInt8) (hr : Behind r) : (∃ c u, tokText t = c :: u ∧ isBlank c = false) ∧ (nextR (tokText t ++ r)).1.key = t.key ∧ (nextR (tokText t ++ r)).2.1 = true ∧ (nextR (tokText t ++ r)).2.2 = (tokText t).length := by
  cases hg with
  | word s pos hs =>
    obtain ⟨⟨c, u, rfl, hc⟩, hall⟩ := hs
    have ht : tokText ⟨1, c :: u, 0, pos⟩ = c :: u := by simp [tokText]
    have hw : wordOf (c :: (u ++ r)) = c :: u := takeWhile_behind (p := isWord) rfl (s := c :: u) hr fun x hx => (hall x hx).1
    have hm : (c :: u).map small = c :: u := by
      conv => rhs; rw [← List.map_id (c :: u)]
      exact List.map_congr_left fun x hx => small_low (hall x hx).2
    rw [ht]
    refine ⟨⟨c, u, rfl, letter_facts hc⟩, ?_⟩
    simp only [List.cons_append, nextR, hc, if_true, hw, hm, Pa.Tok.key]
    exact ⟨by trivial, by trivial, by trivial⟩
  | number m pos hm =>
    have ht : tokText ⟨2, [], m, pos⟩ = dec m := by simp [tokText, numB]
    obtain ⟨h1, h2⟩ := dec_digits (m + 1) m (by omega)
    have h3 := h2 hm
    rw [ht]
    cases hd : dec m with
    | nil => exact absurd hd (dec_ne m)
    | cons c u =>
      rw [hd] at h1 h3
      have hc := h1 c (by simp)
      obtain ⟨f1, f2⟩ := digit_facts hc
      have hw : digits (c :: (u ++ r)) = c :: u := takeWhile_behind (p := isDigit) rfl (s := c :: u) hr h1
      refine ⟨⟨c, u, rfl, f2⟩, ?_⟩
      have hn : numO (c :: (u ++ r)) = some (m : Int) := by unfold numO; rw [hw]; exact h3
      simp only [List.cons_append, nextR, f1, hc, if_true, Bool.false_eq_true, if_false, hw, hn, Pa.Tok.key]
      exact ⟨by trivial, by trivial, by trivial⟩
  | quoted s pos hs =>
    have ht : tokText ⟨3, s, 0, pos⟩ = 39 :: (dbl s ++ [39]) := by simp [tokText]
    have hq := quo_dbl s r hr
    rw [ht]
    refine ⟨⟨39, _, rfl, by decide⟩, ?_⟩
    have e1 : isLetter 39 = false := by decide
    have e2 : isDigit 39 = false := by decide
    have e3 : 39 :: (dbl s ++ [39]) ++ r = 39 :: (dbl s ++ 39 :: r) := by simp
    rw [e3]
    simp only [nextR, e1, e2, Bool.false_eq_true, if_false, if_true, hq, Pa.Tok.key]
    exact ⟨by trivial, by simpa using hs, by simp⟩
  | mark c pos hc =>
    obtain ⟨f1, f2, f3, f4, f5⟩ := mark_facts hc
    have ht : tokText ⟨4, [c], 0, pos⟩ = [c] := by simp [tokText]
    rw [ht]
    refine ⟨⟨c, [], rfl, f4⟩, ?_⟩
    have hm : markP ([c] ++ r) = ([c], true) := by
      rcases hr with rfl | ⟨r', rfl⟩
      · simp only [List.append_nil, markP, hc]
      · simp only [List.singleton_append, markP, f5, hc, Bool.false_eq_true, if_false]
    have e : nextR ([c] ++ r) = (⟨4, (markP ([c] ++ r)).1, 0, 0⟩, (markP ([c] ++ r)).2, (markP ([c] ++ r)).1.length) := by
      simp only [List.singleton_append, nextR, f1, f2, f3, Bool.false_eq_true, if_false]
    rw [e, hm]
    exact ⟨by trivial, by trivial, by trivial⟩
  | pair c d pos hp =>
    obtain ⟨f1, f2, f3, f4⟩ := pair_facts hp
    have ht : tokText ⟨4, [c, d], 0, pos⟩ = [c, d] := by simp [tokText]
    rw [ht]
    refine ⟨⟨c, [d], rfl, f4⟩, ?_⟩
    have hm : markP ([c, d] ++ r) = ([c, d], true) := by
      simp only [List.cons_append, markP, hp, if_true]
    have e : nextR ([c, d] ++ r) = (⟨4, (markP ([c, d] ++ r)).1, 0, 0⟩, (markP ([c, d] ++ r)).2, (markP ([c, d] ++ r)).1.length) := by
      simp only [List.cons_append, nextR, f1, f2, f3, Bool.false_eq_true, if_false]
    rw [e, hm]
    exact ⟨by trivial, by trivial, by trivial⟩
end Go.Proofs.Ytdinnoejipmiiaa

namespace Go.Proofs.Ytdinnoejipmiiaa
open Go.Av
open Go.Av.Pa (Told Pc betw)
theorem lim1 {op : Int} {a : Pa.Ex} (h : (Pa.opE op [a]).lim) : a.lim := by
  unfold Pa.opE at h
  rw [Pa.Ex.lim, Pa.Ex.limL] at h
  exact h.2.1
theorem lim2 {op : Int} {a b : Pa.Ex} (h : (Pa.opE op [a, b]).lim) : a.lim ∧ b.lim := by
  unfold Pa.opE at h
  rw [Pa.Ex.lim, Pa.Ex.limL, Pa.Ex.limL] at h
  exact ⟨h.2.1, h.2.2.1⟩
theorem lim0 {v : Pa.Val} (h : (Pa.lit v).lim) : (-9223372036854775808 ≤ v.n ∧ v.n ≤ 9223372036854775807) ∧ v.s.length ≤ 1000 := by
  unfold Pa.lit at h
  rw [Pa.Ex.lim] at h
  exact h.1
theorem goodName_ne {s : List UInt8} (h : Pa.goodName s = true) : s ≠ [] := by rintro rfl; cases h
theorem put_told {x : Pa.Ex} {ps : List Pc} (ht : Pa.Told x ps) : x.lim → PutE x ps := by
  induction ht with
  | int n h0 => exact fun hl p h₀ h acc hb hw => put_lit ⟨1, n, []⟩ (numB n) (.inl ⟨rfl, h0, (lim0 hl).1.2, rfl⟩) p h₀ h acc hb hw
  | text s => exact fun hl p h₀ h acc hb hw => put_lit ⟨2, 0, s⟩ (39 :: (dbl s ++ [39])) (.inr (.inl ⟨rfl, Nat.le_trans (lim0 hl).2 (by decide), rfl⟩)) p h₀ h acc hb hw
  | null =>
    intro hl p h₀ h acc hb hw
    have e : txts [.word (Pa.bs "null")] = [[78, 85, 76, 76]] := by unfold txts; rw [List.map_cons, pt_null]; rfl
    rw [e] at hb ⊢
    exact put_lit Pa.vz [78, 85, 76, 76] (.inr (.inr ⟨rfl, rfl⟩)) p h₀ h acc hb hw
  | col nm hn => exact fun _ => put_col nm hn.free
  | qcol t nm h1 h2 => exact fun _ => put_qcol t nm (goodName_ne h1.good) h1.free h2.free
  | bin op lv w a b pa pb hm ha hb iha ihb => exact fun hl => put_bin op lv w hm a b pa pb (iha (lim2 hl).1) (ihb (lim2 hl).2)
  | neg a pa ha ih => exact fun hl => put_ahead 4 (.inl rfl) _ pt_minus a pa (ih (lim1 hl))
  | not a pa ha ih => exact fun hl => put_ahead 16 (.inr rfl) _ pt_not a pa (ih (lim1 hl))
  | isnull a pa ha ih => exact fun hl => put_isnull a pa (ih (lim1 hl))
  | count => exact fun _ => put_count
  | agg s op a pa hm ha ih => exact fun hl => put_agg s op hm a pa (ih (lim1 hl))
theorem sumL_cons (a : List UInt8) (l : List (List UInt8)) : sumL (a :: l) = a.length + 1 + sumL l := by simp only [sumL, List.map_cons, List.sum_cons]
theorem betw_len : ∀ x ∈ betw, (ptxt x.2.2).length ≤ 5 := by decide +kernel
theorem aggs_len : ∀ x ∈ Pa.aggs, (ptxt (.word x.1)).length ≤ 5 := by decide +kernel
theorem told_sum {x : Pa.Ex} {ps : List Pc} (ht : Pa.Told x ps) : x.lim → sumL (txts ps) ≤ x.w := by
  induction ht with
  | int n h0 =>
    intro hl
    have := numB_len (n := n) (by unfold Fits; have := (lim0 hl).1; simp only at this; omega)
    rw [txts_cons, sumL_cons, Pa.w_lit]
    show (numB n).length + 1 + 0 ≤ _
    omega
  | text s =>
    intro hl
    have := dbl_len s
    rw [txts_cons, sumL_cons, Pa.w_lit]
    show (39 :: (dbl s ++ [39])).length + 1 + 0 ≤ _
    simp only [List.length_cons, List.length_append, List.length_nil]
    omega
  | null => intro _; rw [txts_cons, sumL_cons, pt_null, Pa.w_lit]; decide
  | col nm hn =>
    intro _
    rw [txts_cons, sumL_cons, pt_name hn.free, Pa.w_col]
    show nm.length + 1 + 0 ≤ _
    omega
  | qcol t nm h1 h2 =>
    intro _
    rw [txts_cons, txts_cons, txts_cons, sumL_cons, sumL_cons, sumL_cons, pt_name h1.free, pt_name h2.free, pt_dot, Pa.w_col]
    show t.length + 1 + (1 + 1 + (nm.length + 1 + 0)) ≤ _
    omega
  | bin op lv w a b pa pb hm ha hb iha ihb =>
    intro hl
    have h1 := iha (lim2 hl).1
    have h2 := ihb (lim2 hl).2
    have h3 := betw_len _ hm
    rw [txts_app, List.cons_append, txts_cons, txts_app, txts_cons, txts_cons, sumL_app, sumL_cons, sumL_app, sumL_cons, sumL_cons, pt_open, pt_close, Pa.w_op2]
    show 1 + 1 + _ + (1 + 1 + 0) ≤ _
    simp only at h3
    omega
  | neg a pa ha ih =>
    intro hl
    have h1 := ih (lim1 hl)
    rw [txts_app, txts_cons, txts_cons, txts_cons, sumL_app, sumL_cons, sumL_cons, sumL_cons, pt_open, pt_close, pt_minus, Pa.w_op1]
    show 1 + 1 + (1 + 1 + _) + (1 + 1 + 0) ≤ _
    omega
  | not a pa ha ih =>
    intro hl
    have h1 := ih (lim1 hl)
    rw [txts_app, txts_cons, txts_cons, txts_cons, sumL_app, sumL_cons, sumL_cons, sumL_cons, pt_open, pt_close, pt_not, Pa.w_op1]
    show 1 + 1 + (3 + 1 + _) + (1 + 1 + 0) ≤ _
    omega
  | isnull a pa ha ih =>
    intro hl
    have h1 := ih (lim1 hl)
    rw [txts_app, txts_cons, txts_cons, txts_cons, txts_cons, sumL_app, sumL_cons, sumL_cons, sumL_cons, sumL_cons, pt_open, pt_close, pt_is, pt_null, Pa.w_op1]
    show 1 + 1 + _ + (2 + 1 + (4 + 1 + (1 + 1 + 0))) ≤ _
    omega
  | count =>
    intro _
    rw [txts_cons, txts_cons, txts_cons, txts_cons, sumL_cons, sumL_cons, sumL_cons, sumL_cons, pt_open, pt_close, pt_count, pt_star, Pa.w_op0]
    decide
  | agg s op a pa hm ha ih =>
    intro hl
    have h1 := ih (lim1 hl)
    have h3 := aggs_len _ hm
    rw [txts_app, txts_cons, txts_cons, txts_cons, sumL_app, sumL_cons, sumL_cons, sumL_cons, pt_open, pt_close, Pa.w_op1]
    show (ptxt (.word s)).length + 1 + (1 + 1 + _) + (1 + 1 + 0) ≤ _
    simp only at h3
    omega
theorem ACalls.subH {P : Program} {f : FuncId} {args : List AV} {h h' : AHeap} {K : AV → AHeap → Prop} (hle : h'.le h) (hc : ACalls P f args h' K) : ACalls P f args h K := fun vs w h1 h2 => by
  obtain ⟨r1, r2⟩ := h2.sub hle
  exact (hc vs w (h1.mono r2.stab) r1).mono fun e w' ⟨u, x, h'', e1, k, e3, e4, e5⟩ => ⟨u, x, h'', e1, k, e3, e4, r2.trans e5⟩
theorem box_leW {h : AHeap} {p : Nat} {o o' : ABlk} (ho : BLe o' o) : (h.set p o).le (h.set p o') := AHeap.le.bothW (.refl _) p ho
def r7 : RCode :=
  (.seq (.region [
    ⟨(some 1), none, .act, .box (.tmp 0)⟩,
    ⟨(some 2), none, .act, .mv (.const (.string ⟨#[]⟩))⟩])
  (.seq (.region [
    ⟨(some 4), none, .act, .build [(.slice none 0 0)] []⟩,
    ⟨(some 5), none, .act, .box (.tmp 4)⟩,
    ⟨(some 3), none, .act, .mv (.tmp 5)⟩])
  (.seq (.region [
    ⟨(some 6), none, .act, .mv (.tmp 3)⟩,
    ⟨(some 7), none, .act, .load true 8 (.tmp 1)⟩,
    ⟨(some 8), none, .act, .call 15 [(.tmp 6), (.tmp 7)]⟩])
  (.seq (.region [
    ⟨(some 9), none, .act, .mv (.tmp 3)⟩,
    ⟨(some 10), none, .act, .nilCheck (.tmp 9)⟩,
    ⟨(some 11), none, .act, .fieldAddr 0 (.tmp 10)⟩,
    ⟨(some 12), none, .act, .load false 1 (.tmp 11)⟩,
    ⟨(some 13), none, .act, .toStr (.tmp 12)⟩,
    ⟨(some 2), none, .act, .mv (.tmp 13)⟩])
  .ret))))
theorem res7 : ∃ c, Try.f7.body = some c ∧ resCode Try.prog 14 c = some r7 := ⟨_, rfl, by kernel_rfl⟩
theorem rr7 : resRes Try.prog Try.f7.results.toList = some [.tmp 2] := by kernel_rfl
theorem put_spec {x : Pa.Ex} {ps : List Pc} (ht : Pa.Told x ps) (hl : x.lim) (hw : x.w ≤ 1000000000) (h : AHeap) : ACalls Try.prog 7 [.ag x.cells] h (fun y h' => y = str (putL [] (txts ps)) ∧ h' = h) := by
  have hp := put_told ht hl
  have hs := told_sum ht hl
  obtain ⟨op, t, nm, n, ⟨vk, vn, vs⟩, ars⟩ := x
  unfold PutE at hp
  rw [Pa.Ex.cells_mk] at hp ⊢
  obtain ⟨c', hc1, hc2⟩ := res7
  refine ACalls.weak (ACalls.enter Try.func7 hc1 Try.ntmps7 hc2 (Nat.le_of_ble_eq_true rfl) rfl ?_)
  repeat' (first | refine S.nilK ?_ | (refine S.op rfl ?_; first | refine R.mv rfl ?_ | refine R.load (by decide) rfl (by (repeat' (first | exact AHeap.set_same _ _ _ | refine AHeap.get_fresh ‹_› ?_)); first | done | fail) rfl ?_ | refine R.box rfl rfl rfl (fun b hb => ?_) | refine R.build rfl rfl ?_) | refine S.seq ?_ | refine S.region ?_)
  rename_i b1 hb1
  have hstart := WAt.start hb
  refine S.op rfl (R.call rfl rfl ((ACalls.subH (box_leW (.box (.cons (.nilSl 1 (c := .full) trivial) .nil))) (hp b _ _ [] (by simp only [List.length_nil]; omega) hstart)).mono fun y h' hw' => ?_))
  obtain ⟨c0, g1, g2, g3, g4, g5, g6⟩ := id hw'
  repeat' (first | refine S.nilK ?_ | (refine S.op rfl ?_; first | refine S.toStrS rfl ?_ | refine R.mv rfl ?_ | refine R.fieldAddr rfl ?_ | refine R.nilCheck rfl ?_ | refine R.load (by decide) rfl (by (repeat' (first | assumption)); first | done | fail) rfl ?_) | refine S.seq ?_ | refine S.region ?_)
  apply S.ret rr7
  case hx => repeat (first | exact ResAt.nil | apply ResAt.tmp rfl)
  exact ⟨_, h, .refl _, (box_gone hb1).trans hw'.le, rfl, rfl⟩
end Go.Proofs.Ytdinnoejipmiiaa

namespace Go.Proofs.Ytdinnoejipmiiaa
open Go.Av
open Go.Av.Pa (Pc betw)
def Lx (x : List UInt8) (k : Int × List UInt8 × Int) : Prop := ∀ r, Behind r → (∃ c u, x = c :: u ∧ isBlank c = false) ∧ (nextR (x ++ r)).1.key = k ∧ (nextR (x ++ r)).2.1 = true ∧ (nextR (x ++ r)).2.2 = x.length
def pkey : Pc → Int × List UInt8 × Int
  | .word s => (1, s, 0)
  | .mark s => (4, s, 0)
  | .num n => (2, [], n)
  | .quo s => (3, s, 0)
def goodMark (s : List UInt8) : Bool := match s with
  | [c] => marksL.contains c
  | [c, d] => pair c d
  | _ => false
def PcOk : Pc → Prop
  | .word s => Pa.goodName s = true
  | .mark s => goodMark s = true
  | .num n => 0 ≤ n ∧ n ≤ 9223372036854775807
  | .quo s => s.length ≤ 1000
theorem lowL_letter {c : UInt8} (h : Pa.lowL c = true) : isLetter c = true ∧ isUpper c = false := by
  unfold Pa.lowL at h
  simp only [Bool.or_eq_true, beq_iff_eq, Bool.and_eq_true, decide_eq_true_eq] at h
  simp only [isLetter, isUpper, decide_eq_true_eq, decide_eq_false_iff_not]
  rcases h with rfl | h
  · decide
  · omega
theorem lowW_word {c : UInt8} (h : Pa.lowW c = true) : isWord c = true ∧ isUpper c = false := by
  unfold Pa.lowW at h
  simp only [Bool.or_eq_true, Bool.and_eq_true, decide_eq_true_eq] at h
  rcases h with h | h
  · have := lowL_letter h
    exact ⟨by simp [isWord, this.1], this.2⟩
  · refine ⟨by simp only [isWord, isDigit, Bool.or_eq_true, decide_eq_true_eq]; exact .inr h, ?_⟩
    simp only [isUpper, decide_eq_false_iff_not]
    omega
theorem goodWord_name {s : List UInt8} (h : Pa.goodName s = true) : GoodWord s := by
  cases s with
  | nil => cases h
  | cons c r =>
    unfold Pa.goodName at h
    rw [Bool.and_eq_true, List.all_eq_true] at h
    exact ⟨⟨c, r, rfl, (lowL_letter h.1).1⟩, fun x hx => lowW_word (h.2 x hx)⟩
theorem up1_facts {c : UInt8} (h : isWord c = true) (hu : isUpper c = false) : isWord (up1 c) = true ∧ small (up1 c) = c ∧ (isLetter c = true → isLetter (up1 c) = true) := by
  have hc := c.toNat_lt
  by_cases hl : 97 ≤ c.toNat ∧ c.toNat ≤ 122
  · have e : (up1 c).toNat = c.toNat - 32 := by unfold up1; rw [if_pos hl]; simp; omega
    refine ⟨?_, ?_, fun _ => ?_⟩
    · simp only [isWord, isLetter, Bool.or_eq_true, decide_eq_true_eq, e]; left; omega
    · apply UInt8.toNat_inj.1
      rw [small_up (by omega) (by omega), e]; omega
    · simp only [isLetter, decide_eq_true_eq, e]; omega
  · have e : up1 c = c := by unfold up1; rw [if_neg hl]
    rw [e]
    exact ⟨h, small_low hu, id⟩
theorem lx_upper {s : List UInt8} (hg : GoodWord s) : Lx (upper s) (1, s, 0) := by
  intro r hr
  obtain ⟨⟨c, u, rfl, hc⟩, hall⟩ := hg
  have hcw := hall c (List.mem_cons_self ..)
  have huc : isLetter (up1 c) = true := (up1_facts hcw.1 hcw.2).2.2 hc
  have e : upper (c :: u) = up1 c :: upper u := rfl
  have hw : wordOf (up1 c :: (upper u ++ r)) = up1 c :: upper u := takeWhile_behind (p := isWord) rfl (s := up1 c :: upper u) hr fun x hx => by
    rw [← e] at hx
    obtain ⟨y, hy, rfl⟩ := List.mem_map.1 hx
    exact (up1_facts (hall y hy).1 (hall y hy).2).1
  have hm : (up1 c :: upper u).map small = c :: u := by
    rw [← e]
    unfold upper
    rw [List.map_map]
    conv => rhs; rw [← List.map_id (c :: u)]
    exact List.map_congr_left fun x hx => (up1_facts (hall x hx).1 (hall x hx).2).2.1
  rw [e]
  refine ⟨⟨up1 c, upper u, rfl, letter_facts huc⟩, ?_⟩
  simp only [List.cons_append, nextR, huc, if_true, hw, hm, Pa.Tok.key]
  exact ⟨by trivial, by trivial, by trivial⟩
theorem lx_good {t : Tok} (hg : Good t) : Lx (tokText t) t.key := fun r hr => nextR_back hg r hr
theorem lx_piece {p : Pc} (h : PcOk p) : Lx (ptxt p) (pkey p) := by
  cases p with
  | word s =>
    have hg := goodWord_name h
    unfold ptxt
    simp only
    split
    · exact lx_upper hg
    · exact lx_good (.word s 0 hg)
  | mark s =>
    match s, h with
    | [c], h => exact lx_good (.mark c 0 h)
    | [c, d], h => exact lx_good (.pair c d 0 h)
    | [], h => cases h
    | _ :: _ :: _ :: _, h => cases h
  | num n =>
    obtain ⟨m, rfl⟩ : ∃ m : Nat, n = m := ⟨n.toNat, by have := h.1; omega⟩
    have := h.2
    exact lx_good (.number m 0 (by omega))
  | quo s => exact lx_good (.quoted s 0 h)
inductive Lxs : List (List UInt8) → List (Int × List UInt8 × Int) → Prop
  | nil : Lxs [] []
  | cons {x : List UInt8} {k : Int × List UInt8 × Int} {xs : List (List UInt8)} {ks : List (Int × List UInt8 × Int)} : Lx x k → Lxs xs ks → Lxs (x :: xs) (k :: ks)
theorem Lxs.len : ∀ {xs : List (List UInt8)} {ks : List (Int × List UInt8 × Int)}, Lxs xs ks → ks.length = xs.length
  | _, _, .nil => rfl
  | _, _, .cons _ h => by rw [List.length_cons, List.length_cons, h.len]
theorem lxs_pieces : ∀ {ps : List Pc}, (∀ p ∈ ps, PcOk p) → Lxs (txts ps) (ps.map pkey)
  | [], _ => .nil
  | p :: ps, h => .cons (lx_piece (h p (List.mem_cons_self ..))) (lxs_pieces fun q hq => h q (List.mem_cons_of_mem _ hq))
def restX (xs : List (List UInt8)) : List UInt8 := xs.flatMap fun x => 32 :: x
theorem restX_behind (xs : List (List UInt8)) : Behind (restX xs) := by
  cases xs with
  | nil => exact .inl rfl
  | cons t ts => exact .inr ⟨t ++ restX ts, rfl⟩
theorem restX_len : ∀ xs : List (List UInt8), xs.length ≤ (restX xs).length
  | [] => Nat.le_refl _
  | x :: xs => by
    rw [show restX (x :: xs) = 32 :: (x ++ restX xs) from rfl]
    simp only [List.length_cons, List.length_append]
    have := restX_len xs
    omega
theorem cut_stepX {x : List UInt8} {k : Int × List UInt8 × Int} (hg : Lx x k) (pre r : List UInt8) (hpre : pre = [] ∨ pre = [32]) (hr : Behind r) (f i n : Nat) (hn : n ≠ 400) :
    ∃ t i', t.key = k ∧ (cutF (f + 1) (pre ++ (x ++ r)) i n).1 = t :: (cutF f r i' (n + 1)).1 ∧ (cutF (f + 1) (pre ++ (x ++ r)) i n).2 = (cutF f r i' (n + 1)).2 := by
  obtain ⟨⟨c, u, hc1, hc2⟩, h1, h2, h3⟩ := hg r hr
  have hb : blanks (pre ++ (x ++ r)) = pre.length := by
    have e : ∀ x : List UInt8, (c :: x).takeWhile isBlank = [] := fun x => by rw [List.takeWhile_cons, hc2]; rfl
    unfold blanks
    rw [hc1]
    rcases hpre with rfl | rfl
    · simp only [List.nil_append, List.cons_append, e]
    · have : isBlank 32 = true := by decide
      simp only [List.cons_append, List.nil_append, List.takeWhile_cons, this, hc2]; rfl
  have hdr : (pre ++ (x ++ r)).drop (blanks (pre ++ (x ++ r))) = x ++ r := by rw [hb]; simp
  have hne : (pre ++ (x ++ r)).drop (blanks (pre ++ (x ++ r))) ≠ [] := by rw [hdr, hc1]; simp
  rw [cutF_tok hne hn (by rw [hdr]; exact h2), hdr, h3]
  rw [List.drop_left]
  refine ⟨_, _, ?_, rfl, rfl⟩
  exact h1
theorem cut_stop {x : List UInt8} {k : Int × List UInt8 × Int} (hg : Lx x k) (pre r : List UInt8) (hpre : pre = [] ∨ pre = [32]) (hr : Behind r) (f i : Nat) : ∃ pos, cutF (f + 1) (pre ++ (x ++ r)) i 400 = ([], some (2, pos)) := by
  obtain ⟨⟨c, u, hc1, hc2⟩, h1, h2, h3⟩ := hg r hr
  have hb : blanks (pre ++ (x ++ r)) = pre.length := by
    have e : ∀ x : List UInt8, (c :: x).takeWhile isBlank = [] := fun x => by rw [List.takeWhile_cons, hc2]; rfl
    unfold blanks
    rw [hc1]
    rcases hpre with rfl | rfl
    · simp only [List.nil_append, List.cons_append, e]
    · have : isBlank 32 = true := by decide
      simp only [List.cons_append, List.nil_append, List.takeWhile_cons, this, hc2]; rfl
  have hdr : (pre ++ (x ++ r)).drop (blanks (pre ++ (x ++ r))) = x ++ r := by rw [hb]; simp
  have hne : (pre ++ (x ++ r)).drop (blanks (pre ++ (x ++ r))) ≠ [] := by rw [hdr, hc1]; simp
  exact ⟨_, cutF_long hne rfl⟩
theorem cut_restX : ∀ {xs : List (List UInt8)} {ks : List (Int × List UInt8 × Int)}, Lxs xs ks → ∀ (f i n : Nat), xs.length < f → n ≤ 400 →
    (n + xs.length ≤ 400 → (cutF f (restX xs) i n).1.map Pa.Tok.key = ks ∧ (cutF f (restX xs) i n).2 = none) ∧ (400 < n + xs.length → ∃ pos, (cutF f (restX xs) i n).2 = some (2, pos))
  | _, _, .nil, f, i, n, hf, hn => by
    obtain ⟨f, rfl⟩ : ∃ g, f = g + 1 := ⟨f - 1, by simp at hf; omega⟩
    rw [show restX [] = [] from rfl, cutF_end rfl]
    exact ⟨fun _ => ⟨rfl, rfl⟩, fun h => by simp at h; omega⟩
  | _, _, .cons (x := x) (k := k) (xs := xs) (ks := ks) hx hxs, f, i, n, hf, hn => by
    obtain ⟨f, rfl⟩ : ∃ g, f = g + 1 := ⟨f - 1, by simp at hf; omega⟩
    simp only [List.length_cons] at hf ⊢
    rw [show restX (x :: xs) = [32] ++ (x ++ restX xs) from rfl]
    by_cases h4 : n = 400
    · subst h4
      obtain ⟨pos, e⟩ := cut_stop hx [32] (restX xs) (.inr rfl) (restX_behind xs) f i
      rw [e]
      exact ⟨fun h => by omega, fun _ => ⟨pos, rfl⟩⟩
    · obtain ⟨t, i', e1, e2, e3⟩ := cut_stepX hx [32] (restX xs) (.inr rfl) (restX_behind xs) f i n h4
      have ih := cut_restX hxs f i' (n + 1) (by omega) (by omega)
      rw [e2, e3, List.map_cons, e1]
      refine ⟨fun h => ?_, fun h => ih.2 (by omega)⟩
      obtain ⟨g1, g2⟩ := ih.1 (by omega)
      exact ⟨by rw [g1], g2⟩
theorem putL_rest : ∀ (xs : List (List UInt8)) (acc : List UInt8), acc ≠ [] → putL acc xs = acc ++ restX xs
  | [], acc, _ => by simp [putL, restX]
  | x :: xs, acc, h => by
    have e : put1 acc x = acc ++ (32 :: x) := by
      unfold put1
      rw [if_pos (List.length_pos_iff.2 h)]; simp
    show putL (put1 acc x) xs = _
    rw [putL_rest xs _ (by rw [e]; simp), e, show restX (x :: xs) = 32 :: (x ++ restX xs) from rfl]
    simp
theorem cut_putL {xs : List (List UInt8)} {ks : List (Int × List UInt8 × Int)} (h : Lxs xs ks) :
    (xs.length ≤ 400 → (cutS (putL [] xs)).1.map Pa.Tok.key = ks ∧ (cutS (putL [] xs)).2 = none) ∧ (400 < xs.length → ∃ pos, (cutS (putL [] xs)).2 = some (2, pos)) := by
  cases h with
  | nil => exact ⟨fun _ => ⟨rfl, rfl⟩, fun h => by simp at h⟩
  | @cons x k xs ks hx hxs =>
    obtain ⟨⟨c, u, hc1, _⟩, _⟩ := hx [] (.inl rfl)
    have e : putL [] (x :: xs) = [] ++ (x ++ restX xs) := by
      show putL (put1 [] x) xs = _
      have : put1 [] x = x := rfl
      rw [this, putL_rest xs x (by rw [hc1]; simp)]; rfl
    obtain ⟨t, i', e1, e2, e3⟩ := cut_stepX hx [] (restX xs) (.inl rfl) (restX_behind xs) ((putL [] (x :: xs)).length) 0 0 (by decide)
    have hlen : xs.length < (putL [] (x :: xs)).length := by
      rw [e, List.nil_append, List.length_append, hc1, List.length_cons]
      have := restX_len xs
      omega
    have ih := cut_restX hxs _ i' 1 hlen (by decide)
    unfold cutS
    rw [← e] at e2 e3
    rw [e2, e3, List.map_cons, e1]
    simp only [List.length_cons]
    rw [show (0 + 1) = 1 from rfl]
    refine ⟨fun h => ?_, fun h => ih.2 (by omega)⟩
    obtain ⟨g1, g2⟩ := ih.1 (by omega)
    exact ⟨by rw [g1], g2⟩
def pcB : Pc → Bool
  | .word s => Pa.goodName s
  | .mark s => goodMark s
  | _ => false
theorem pcB_ok {p : Pc} (h : pcB p = true) : PcOk p := by
  cases p with
  | word s => exact h
  | mark s => exact h
  | num n => cases h
  | quo s => cases h
theorem betw_ok : ∀ x ∈ betw, pcB x.2.2 = true := by decide +kernel
theorem aggs_ok : ∀ x ∈ Pa.aggs, pcB (.word x.1) = true := by decide +kernel
theorem ok_null : pcB (.word (Pa.bs "null")) = true := by decide +kernel
theorem ok_not : pcB (.word (Pa.bs "not")) = true := by decide +kernel
theorem ok_is : pcB (.word (Pa.bs "is")) = true := by decide +kernel
theorem ok_count : pcB (.word (Pa.bs "count")) = true := by decide +kernel
theorem ok_open : pcB (.mark (Pa.bs "(")) = true := by decide +kernel
theorem ok_close : pcB Pa.closeP = true := by decide +kernel
theorem ok_minus : pcB (.mark (Pa.bs "-")) = true := by decide +kernel
theorem ok_star : pcB (.mark (Pa.bs "*")) = true := by decide +kernel
theorem ok_dot : pcB (.mark (Pa.bs ".")) = true := by decide +kernel
def PcsOk (ps : List Pc) : Prop := ∀ p ∈ ps, PcOk p
theorem PcsOk.cons {p : Pc} {ps : List Pc} (h : PcOk p) (h' : PcsOk ps) : PcsOk (p :: ps) := fun q hq => by
  rcases List.mem_cons.1 hq with rfl | hq
  · exact h
  · exact h' q hq
theorem PcsOk.app {a b : List Pc} (h : PcsOk a) (h' : PcsOk b) : PcsOk (a ++ b) := fun q hq => (List.mem_append.1 hq).elim (h q) (h' q)
theorem PcsOk.nil : PcsOk [] := fun q hq => by cases hq
theorem told_ok {x : Pa.Ex} {ps : List Pc} (ht : Pa.Told x ps) : x.lim → PcsOk ps := by
  induction ht with
  | int n h0 => exact fun hl => .cons ⟨h0, (lim0 hl).1.2⟩ .nil
  | text s => exact fun hl => .cons (lim0 hl).2 .nil
  | null => exact fun _ => .cons (pcB_ok ok_null) .nil
  | col nm hn => exact fun _ => .cons hn.good .nil
  | qcol t nm h1 h2 => exact fun _ => .cons h1.good (.cons (pcB_ok ok_dot) (.cons h2.good .nil))
  | bin op lv w a b pa pb hm ha hb iha ihb => exact fun hl => .app (.app (.cons (pcB_ok ok_open) (iha (lim2 hl).1)) (.cons (pcB_ok (betw_ok _ hm)) (ihb (lim2 hl).2))) (.cons (pcB_ok ok_close) .nil)
  | neg a pa ha ih => exact fun hl => .app (.cons (pcB_ok ok_open) (.cons (pcB_ok ok_minus) (ih (lim1 hl)))) (.cons (pcB_ok ok_close) .nil)
  | not a pa ha ih => exact fun hl => .app (.cons (pcB_ok ok_open) (.cons (pcB_ok ok_not) (ih (lim1 hl)))) (.cons (pcB_ok ok_close) .nil)
  | isnull a pa ha ih => exact fun hl => .app (.cons (pcB_ok ok_open) (ih (lim1 hl))) (.cons (pcB_ok ok_is) (.cons (pcB_ok ok_null) (.cons (pcB_ok ok_close) .nil)))
  | count => exact fun _ => .cons (pcB_ok ok_count) (.cons (pcB_ok ok_open) (.cons (pcB_ok ok_star) (.cons (pcB_ok ok_close) .nil)))
  | agg s op a pa hm ha ih => exact fun hl => .app (.cons (pcB_ok (aggs_ok _ hm)) (.cons (pcB_ok ok_open) (ih (lim1 hl)))) (.cons (pcB_ok ok_close) .nil)
theorem fits_key {p : Pc} {t : Tok} (h : t.key = pkey p) : p.fits t := by
  unfold Pa.Tok.key at h
  cases p with
  | word s => simp only [pkey, Prod.mk.injEq] at h; exact ⟨h.1, h.2.1⟩
  | mark s => simp only [pkey, Prod.mk.injEq] at h; exact ⟨h.1, h.2.1⟩
  | num n => simp only [pkey, Prod.mk.injEq] at h; exact ⟨h.1, h.2.2⟩
  | quo s => simp only [pkey, Prod.mk.injEq] at h; exact ⟨h.1, h.2.1⟩
theorem fit_keys (l : List Tok) : ∀ (ps : List Pc) (i : Nat), (l.drop i).map Pa.Tok.key = ps.map pkey → Pa.Fit l ps i
  | [], _, _ => trivial
  | p :: ps, i, h => by
    cases hd : l.drop i with
    | nil => rw [hd] at h; cases h
    | cons t r =>
      rw [hd] at h
      simp only [List.map_cons, List.cons.injEq] at h
      have ht : l[i]? = some t := by
        have : (l.drop i)[0]? = some t := by rw [hd]; rfl
        simpa using this
      refine ⟨⟨t, ht, fits_key h.1⟩, fit_keys l ps (i + 1) ?_⟩
      have : l.drop (i + 1) = r := by
        have h2 : l.drop (i + 1) = (l.drop i).drop 1 := by rw [List.drop_drop]
        rw [h2, hd]; rfl
      rw [this]; exact h.2
theorem back_text {x : Pa.Ex} {ps : List Pc} (ht : Pa.Told x ps) (hl : x.lim) (fin : Int) :
    (lexed (putL [] (txts ps))).2.2 = 2 ∧ (lexed (putL [] (txts ps))).1 = [] ∨ (lexed (putL [] (txts ps))).2.2 = 0 ∧ (Pa.expressionP (lexed (putL [] (txts ps))).1 fin (st0 (putL [] (txts ps))) = (x, 0, 0) ∨ (Pa.expressionP (lexed (putL [] (txts ps))).1 fin (st0 (putL [] (txts ps)))).2.2 = 201) := by
  have hL := lxs_pieces (told_ok ht hl)
  have hlen := hL.len
  obtain ⟨h1, h2⟩ := cut_putL hL
  by_cases h4 : (txts ps).length ≤ 400
  · obtain ⟨e1, e2⟩ := h1 h4
    have e : lexed (putL [] (txts ps)) = ((cutS (putL [] (txts ps))).1, 0, 0) := by unfold lexed; rw [e2]
    refine .inr ?_
    unfold st0
    rw [e]
    simp only
    refine ⟨trivial, ?_⟩
    have hll : (cutS (putL [] (txts ps))).1.length = ps.length := by
      have := congrArg List.length e1
      simpa using this
    exact Pa.back ht (fit_keys _ ps 0 (by rw [List.drop_zero]; exact e1)) hll
  · obtain ⟨pos, e2⟩ := h2 (by omega)
    have e : lexed (putL [] (txts ps)) = ([], (pos : Int), 2) := by unfold lexed; rw [e2]
    rw [e]
    exact .inl ⟨rfl, rfl⟩
end Go.Proofs.Ytdinnoejipmiiaa

namespace Go.Proofs.Ytdinnoejipmiiaa
open Go.Av
open Go.Av.Pa (Pc betw exprP expressionP)
theorem lexed_mem {s : List UInt8} {t : Tok} (h : t ∈ (lexed s).1) : Good t ∧ t.s.length ≤ s.length := by
  unfold lexed at h
  cases hc : (cutS s).2 with
  | none => rw [hc] at h; exact cutF_good _ _ _ _ t h
  | some p => rw [hc] at h; cases h
theorem lexed_len (s : List UInt8) : (lexed s).1.length ≤ 400 := by
  unfold lexed
  cases hc : (cutS s).2 with
  | none =>
    have := cutF_len (s.length + 1) s 0 0 (by decide)
    simpa [cutS] using this
  | some p => simp
theorem lexed_ok {s : List UInt8} (hs : s.length ≤ 2000000) : TOk (lexed s).1 := ⟨lexed_len s, fun t ht => Nat.le_trans (lexed_mem ht).2 (Nat.le_trans hs (by decide))⟩
theorem low_of_letter {c : UInt8} (h : isLetter c = true) (hu : isUpper c = false) : Pa.lowL c = true := by
  simp only [isLetter, isUpper, decide_eq_true_eq, decide_eq_false_iff_not] at h hu
  unfold Pa.lowL
  simp only [Bool.or_eq_true, beq_iff_eq, Bool.and_eq_true, decide_eq_true_eq]
  rcases h with h | h | h
  · left; exact UInt8.toNat_inj.1 h
  · right; exact h
  · exact absurd h hu
theorem low_of_word {c : UInt8} (h : isWord c = true) (hu : isUpper c = false) : Pa.lowW c = true := by
  unfold isWord at h
  rw [Bool.or_eq_true] at h
  unfold Pa.lowW
  rcases h with h | h
  · rw [low_of_letter h hu]; rfl
  · simp only [isDigit, decide_eq_true_eq] at h
    simp only [Bool.or_eq_true, Bool.and_eq_true, decide_eq_true_eq]
    exact .inr h
theorem name_goodWord {s : List UInt8} (h : GoodWord s) : Pa.goodName s = true := by
  obtain ⟨⟨c, r, rfl, hc⟩, hall⟩ := h
  unfold Pa.goodName
  rw [Bool.and_eq_true, List.all_eq_true]
  exact ⟨low_of_letter hc (hall c (List.mem_cons_self ..)).2, fun x hx => low_of_word (hall x hx).1 (hall x hx).2⟩
theorem lexed_clean (s : List UInt8) : Pa.Clean (lexed s).1 where
  num := fun t ht hk => by
    have := (lexed_mem ht).1
    cases this with
    | number m pos h => exact Int.natCast_nonneg m
    | _ => cases hk
  word := fun t ht hk => by
    have := (lexed_mem ht).1
    cases this with
    | word w pos h =>
      obtain ⟨⟨c, r, rfl, hc⟩, _⟩ := h
      rw [bs_minus]
      intro e
      cases e
      exact absurd hc (by decide)
    | _ => cases hk
  good := fun t ht hk => by
    have := (lexed_mem ht).1
    cases this with
    | word w pos h => exact name_goodWord h
    | _ => cases hk
theorem lexed_lit {s : List UInt8} (hs : s.length ≤ 2000) : Pa.Lit (lexed s).1 := fun t ht => by
  obtain ⟨hg, hl⟩ := lexed_mem ht
  refine ⟨Nat.le_trans hl hs, ?_, fun hk => ?_⟩
  · cases hg with
    | number m pos h => simp only; omega
    | _ => simp only; omega
  · cases hg with
    | quoted s pos h => exact h
    | _ => cases hk
theorem read_told {s : List UInt8} (hs : s.length ≤ 2000) {x : Pa.Ex} {a : Int} (h : expressionP (lexed s).1 s.length (st0 s) = (x, a, 0)) : ∃ ps, Pa.Told x ps ∧ x.lim ∧ x.w ≤ 1680060 := by
  unfold expressionP at h
  cases he : exprP (lexed s).1 s.length (st0 s) with
  | mk e s1 =>
  rw [he] at h
  simp only at h
  have hhas := Pa.ev_has (fin := s.length) (lexed_lit hs) (16 * (lexed s).1.length + 40) (.left 0) (st0 s) (Nat.zero_le _)
  have htold := Pa.ev_told (fin := s.length) (lexed_clean s) (16 * (lexed s).1.length + 40) (.left 0) (st0 s)
  unfold exprP at he
  rw [he] at hhas htold
  have key : ∀ s2 : Pa.PS, (if s2.good = true then (e, (0 : Int), (0 : Int)) else (Pa.Ex.nil, s2.bat, s2.be)) = (x, a, 0) → s2.be = 0 ∧ e = x := fun s2 h2 => by
    unfold Pa.PS.good at h2
    split at h2
    · next hg => cases h2; exact ⟨by simpa using hg, rfl⟩
    · next hg =>
      simp only [Prod.mk.injEq] at h2
      exact absurd h2.2.2 (by simpa using hg)
  obtain ⟨hb, rfl⟩ := key _ h
  have hb1 : s1.be = 0 := by
    split at hb
    · exact (Pa.wrong_kept (l := (lexed s).1) (fin := s.length) s1).back hb
    · exact hb
  obtain ⟨ps, ht⟩ := htold hb1
  refine ⟨ps, ht, hhas.lim, ?_⟩
  have h1 := hhas.w
  have h2 := hhas.le
  have h3 := lexed_len s
  simp only at h1 h2
  have : s1.i - (st0 s).i ≤ 400 := by omega
  omega
theorem read_fault {l : List Tok} {fin : Int} {st : Pa.PS} (h : st.be ≠ 0) : (expressionP l fin st).2.2 = st.be := by
  unfold expressionP
  have hk := Pa.ev_kept (l := l) (fin := fin) (16 * l.length + 40) (.left 0) st h
  cases he : exprP l fin st with
  | mk e s1 =>
  unfold exprP at he
  rw [he] at hk
  simp only at hk ⊢
  have hb : (if s1.i < l.length then Pa.wrongP l fin s1 else s1).be = st.be := by
    split
    · exact ((Pa.wrong_kept (l := l) (fin := fin) s1) (by rw [hk.1]; exact h)).1.trans hk.1
    · exact hk.1
  have hg : (if s1.i < l.length then Pa.wrongP l fin s1 else s1).good = false := by
    unfold Pa.PS.good
    rw [hb]
    simpa using h
  rw [hg]
  exact hb
def r3 : RCode :=
  (.seq (.region [
    ⟨(some 2), none, .act, .mv (.const (.bool false))⟩])
  (.seq (.seq (.region [
    ⟨(some 9), none, .act, .call 5 []⟩,
    ⟨(some 10), none, .act, .un .not (.tmp 9)⟩])
  (.cond (.tmp 10)
   (.seq (.region [
     ⟨(some 2), none, .act, .mv (.const (.bool false))⟩])
   .ret)
   .skip))
  (.seq (.seq (.region [
    ⟨(some 11), none, .act, .mv (.tmp 0)⟩,
    ⟨(some 12), none, .act, .lenStr (.tmp 11)⟩,
    ⟨(some 13), none, .act, .bin .gtr (.tmp 12) (.const (.int .i64 2000))⟩])
  (.cond (.tmp 13)
   (.seq (.region [
     ⟨(some 2), none, .act, .mv (.const (.bool true))⟩])
   .ret)
   .skip))
  (.seq (.region [
    ⟨(some 15), none, .act, .mv (.tmp 0)⟩,
    ⟨(some 16), none, .act, .call 6 [(.tmp 15)]⟩,
    ⟨(some 14), none, .act, .mv (.tmp 16)⟩,
    ⟨(some 17), none, .act, .extract (.tmp 14) 0⟩,
    ⟨(some 18), none, .act, .extract (.tmp 14) 1⟩,
    ⟨(some 19), none, .act, .extract (.tmp 14) 2⟩,
    ⟨(some 3), none, .act, .alloc [(.int .i64 0), (.string ⟨#[]⟩), (.string ⟨#[]⟩), (.int .i64 0), (.int .i64 0), (.int .i64 0), (.string ⟨#[]⟩), (.slice none 0 0)]⟩,
    ⟨none, none, .act, .store 8 (.tmp 3) (.tmp 17)⟩,
    ⟨(some 4), none, .act, .mv (.tmp 18)⟩,
    ⟨(some 5), none, .act, .mv (.tmp 19)⟩])
  (.seq (.seq (.region [
    ⟨(some 20), none, .act, .mv (.tmp 5)⟩,
    ⟨(some 21), none, .act, .eq true .int (.tmp 20) (.const (.int .i64 0))⟩])
  (.cond (.tmp 21)
   (.seq (.region [
     ⟨(some 2), none, .act, .mv (.const (.bool true))⟩])
   .ret)
   .skip))
  (.seq (.region [
    ⟨(some 23), none, .act, .load true 8 (.tmp 3)⟩,
    ⟨(some 24), none, .act, .call 7 [(.tmp 23)]⟩,
    ⟨(some 25), none, .act, .call 6 [(.tmp 24)]⟩,
    ⟨(some 22), none, .act, .mv (.tmp 25)⟩,
    ⟨(some 26), none, .act, .extract (.tmp 22) 0⟩,
    ⟨(some 27), none, .act, .extract (.tmp 22) 1⟩,
    ⟨(some 28), none, .act, .extract (.tmp 22) 2⟩,
    ⟨(some 6), none, .act, .alloc [(.int .i64 0), (.string ⟨#[]⟩), (.string ⟨#[]⟩), (.int .i64 0), (.int .i64 0), (.int .i64 0), (.string ⟨#[]⟩), (.slice none 0 0)]⟩,
    ⟨none, none, .act, .store 8 (.tmp 6) (.tmp 26)⟩,
    ⟨(some 7), none, .act, .mv (.tmp 27)⟩,
    ⟨(some 8), none, .act, .mv (.tmp 28)⟩])
  (.seq (.region [
    ⟨(some 29), none, .act, .mv (.tmp 8)⟩,
    ⟨(some 30), none, .act, .eq false .int (.tmp 29) (.const (.int .i64 201))⟩,
    ⟨(some 31), none, .act, .mv (.tmp 30)⟩,
    ⟨(some 32), (some (31, false)), .act, .mv (.tmp 8)⟩,
    ⟨(some 33), (some (31, false)), .act, .eq false .int (.tmp 32) (.const (.int .i64 2))⟩,
    ⟨(some 34), none, .act, .pick (.tmp 31) (.const (.bool true)) (.tmp 33)⟩,
    ⟨(some 35), none, .act, .mv (.tmp 34)⟩,
    ⟨(some 36), (some (35, false)), .act, .mv (.tmp 8)⟩,
    ⟨(some 37), (some (35, false)), .act, .eq false .int (.tmp 36) (.const (.int .i64 0))⟩,
    ⟨(some 38), (some (35, false)), .act, .mv (.tmp 37)⟩,
    ⟨(some 39), (some (38, true)), .act, .load true 8 (.tmp 3)⟩,
    ⟨(some 40), (some (38, true)), .act, .load true 8 (.tmp 6)⟩,
    ⟨(some 41), (some (38, true)), .act, .call 8 [(.tmp 39), (.tmp 40)]⟩,
    ⟨(some 42), (some (35, false)), .act, .pick (.tmp 38) (.tmp 41) (.const (.bool false))⟩,
    ⟨(some 43), none, .act, .pick (.tmp 35) (.const (.bool true)) (.tmp 42)⟩,
    ⟨(some 2), none, .act, .mv (.tmp 43)⟩])
  .ret)))))))
theorem res3 : ∃ c, Try.f3.body = some c ∧ resCode Try.prog 44 c = some r3 := ⟨_, rfl, by kernel_rfl⟩
theorem rr3 : resRes Try.prog Try.f3.results.toList = some [.tmp 2] := by kernel_rfl
theorem parseBack_spec (s : List UInt8) (h : AHeap) (hg : Glob h) : ACalls Try.prog 3 [str s] h (fun x h' => x = bl true ∧ h' = h) := by
  obtain ⟨c', hc1, hc2⟩ := res3
  refine ACalls.weak (ACalls.enter Try.func3 hc1 Try.ntmps3 hc2 (Nat.le_of_ble_eq_true rfl) rfl ?_)
  have ca := awake_spec
  by_cases hs : s.length ≤ 2000
  · have c6 := fun h hg => expression_spec s (by omega) (lexed_ok (by omega)) h hg
    cases he : expressionP (lexed s).1 s.length (st0 s) with
    | mk x ae =>
    obtain ⟨a, e⟩ := ae
    rw [he] at c6
    by_cases h0 : e = 0
    · subst h0
      obtain ⟨ps, ht, hl, hw⟩ := read_told hs he
      have c7 := fun h => put_spec ht hl (by omega) h
      have hsum := told_sum ht hl
      have hlen := putL_len (txts ps) []
      simp only [List.length_nil] at hlen
      have hb := fun fin => back_text ht hl fin
      generalize putL [] (txts ps) = s2 at *
      have d6 := fun h hg => expression_spec s2 (by omega) (lexed_ok (by omega)) h hg
      have hb := hb s2.length
      clear he ht hl hw hsum
      have c8 := same_ex x
      unfold SameE at c8
      obtain ⟨op1, t1, nm1, m1, ⟨vk1, vn1, vs1⟩, ar1⟩ := x
      rw [Pa.Ex.cells_mk] at c6 c7 c8
      dsimp only at c6
      have done1 : (lexed s2).2.2 = 2 ∧ (lexed s2).1 = [] → (expressionP (lexed s2).1 s2.length (st0 s2)).2.2 = 2 := fun q => by
        have : (st0 s2).be = 2 := q.1
        rw [read_fault (by rw [this]; decide), this]
      cases he2 : expressionP (lexed s2).1 s2.length (st0 s2) with
      | mk y bf =>
      obtain ⟨b2, f⟩ := bf
      rw [he2] at d6 hb done1
      clear he2
      dsimp only at d6 hb done1
      have hcases : f = 2 ∨ f = 201 ∨ (f = 0 ∧ y = .mk op1 t1 nm1 m1 ⟨vk1, vn1, vs1⟩ ar1) := by
        rcases hb with hb | ⟨_, hb | hb⟩
        · exact .inl (done1 hb)
        · cases hb; exact .inr (.inr ⟨rfl, rfl⟩)
        · exact .inr (.inl hb)
      clear hb done1
      rcases hcases with rfl | rfl | ⟨rfl, rfl⟩
      · obtain ⟨op2, t2, nm2, m2, ⟨vk2, vn2, vs2⟩, ar2⟩ := y
        rw [Pa.Ex.cells_mk] at d6
        repeat' (first | refine S.nilK ?_ | (refine S.op rfl ?_; first | (show ROpS _ _ (.call 5 _) _ _ _; refine callG rfl rfl ca (by repeat' (first | assumption)) ?_) | refine S.lenS rfl ?_ | (show ROpS _ _ (.call 6 [.tmp 15]) _ _ _; refine callG rfl rfl c6 (by repeat' (first | assumption)) ?_) | (show ROpS _ _ (.call 7 _) _ _ _; refine callN rfl rfl (c7 _) rfl ?_) | (show ROpS _ _ (.call 6 [.tmp 24]) _ _ _; refine callG rfl rfl d6 (by repeat' (first | assumption | refine Glob.setF ?_ (by (repeat' (first | assumption)); first | done | fail))) ?_) | refine R.mv rfl ?_ | refine R.load (by decide) rfl (by (repeat' (first | exact AHeap.set_same _ _ _)); first | done | fail) rfl ?_ | refine R.pickT rfl rfl ?_ | refine R.pickF rfl rfl ?_ | refine R.not rfl ?_ | refine R.extract rfl rfl ?_ | refine R.alloc rfl (fun b hb => ?_) | ((first | refine S.gtr rfl rfl ?_ ?_ | refine S.eqInt rfl rfl ?_ ?_) <;> intro hlt <;> try (exfalso; omega))) | (refine S.op0 rfl ?_; first | refine S.storeS rfl rfl rfl (by rfl) rfl (by first | decide | exact Nat.le_refl _ | exact Nat.le_of_ble_eq_true rfl) ?_) | refine S.skip rfl ?_ | refine S.seq ?_ | refine S.region ?_ | refine S.condF rfl ?_ | refine RRun.skip ?_)
        apply S.ret rr3
        case hx => repeat (first | exact ResAt.nil | apply ResAt.tmp rfl)
        exact ⟨_, h, .refl _, (by repeat (first | exact AHeap.le.refl _ | refine AHeap.le.set ?_ _ (by (repeat' (first | assumption | exact AHeap.z1 ‹_›)); first | done | fail))), rfl, rfl⟩
      · obtain ⟨op2, t2, nm2, m2, ⟨vk2, vn2, vs2⟩, ar2⟩ := y
        rw [Pa.Ex.cells_mk] at d6
        repeat' (first | refine S.nilK ?_ | (refine S.op rfl ?_; first | (show ROpS _ _ (.call 5 _) _ _ _; refine callG rfl rfl ca (by repeat' (first | assumption)) ?_) | refine S.lenS rfl ?_ | (show ROpS _ _ (.call 6 [.tmp 15]) _ _ _; refine callG rfl rfl c6 (by repeat' (first | assumption)) ?_) | (show ROpS _ _ (.call 7 _) _ _ _; refine callN rfl rfl (c7 _) rfl ?_) | (show ROpS _ _ (.call 6 [.tmp 24]) _ _ _; refine callG rfl rfl d6 (by repeat' (first | assumption | refine Glob.setF ?_ (by (repeat' (first | assumption)); first | done | fail))) ?_) | refine R.mv rfl ?_ | refine R.load (by decide) rfl (by (repeat' (first | exact AHeap.set_same _ _ _)); first | done | fail) rfl ?_ | refine R.pickT rfl rfl ?_ | refine R.not rfl ?_ | refine R.extract rfl rfl ?_ | refine R.alloc rfl (fun b hb => ?_) | ((first | refine S.gtr rfl rfl ?_ ?_ | refine S.eqInt rfl rfl ?_ ?_) <;> intro hlt <;> try (exfalso; omega))) | (refine S.op0 rfl ?_; first | refine S.storeS rfl rfl rfl (by rfl) rfl (by first | decide | exact Nat.le_refl _ | exact Nat.le_of_ble_eq_true rfl) ?_) | refine S.skip rfl ?_ | refine S.seq ?_ | refine S.region ?_ | refine S.condF rfl ?_ | refine RRun.skip ?_)
        apply S.ret rr3
        case hx => repeat (first | exact ResAt.nil | apply ResAt.tmp rfl)
        exact ⟨_, h, .refl _, (by repeat (first | exact AHeap.le.refl _ | refine AHeap.le.set ?_ _ (by (repeat' (first | assumption | exact AHeap.z1 ‹_›)); first | done | fail))), rfl, rfl⟩
      · rw [Pa.Ex.cells_mk] at d6
        repeat' (first | refine S.nilK ?_ | (refine S.op rfl ?_; first | (show ROpS _ _ (.call 5 _) _ _ _; refine callG rfl rfl ca (by repeat' (first | assumption)) ?_) | refine S.lenS rfl ?_ | (show ROpS _ _ (.call 6 [.tmp 15]) _ _ _; refine callG rfl rfl c6 (by repeat' (first | assumption)) ?_) | (show ROpS _ _ (.call 7 _) _ _ _; refine callN rfl rfl (c7 _) rfl ?_) | (show ROpS _ _ (.call 6 [.tmp 24]) _ _ _; refine callG rfl rfl d6 (by repeat' (first | assumption | refine Glob.setF ?_ (by (repeat' (first | assumption)); first | done | fail))) ?_) | (show ROpS _ _ (.call 8 _) _ _ _; refine callN rfl rfl (c8 _) rfl ?_) | refine R.mv rfl ?_ | refine R.load (by decide) rfl (by (repeat' (first | exact AHeap.set_same _ _ _ | refine AHeap.get_fresh ‹_› ?_)); first | done | fail) rfl ?_ | refine R.pickT rfl rfl ?_ | refine R.pickF rfl rfl ?_ | refine R.not rfl ?_ | refine R.extract rfl rfl ?_ | refine R.alloc rfl (fun b hb => ?_) | ((first | refine S.gtr rfl rfl ?_ ?_ | refine S.eqInt rfl rfl ?_ ?_) <;> intro hlt <;> try (exfalso; omega))) | (refine S.op0 rfl ?_; first | refine S.storeS rfl rfl rfl (by rfl) rfl (by first | decide | exact Nat.le_refl _ | exact Nat.le_of_ble_eq_true rfl) ?_) | refine S.seq ?_ | refine S.region ?_ | refine S.condF rfl ?_ | refine RRun.skip ?_)
        apply S.ret rr3
        case hx => repeat (first | exact ResAt.nil | apply ResAt.tmp rfl)
        exact ⟨_, h, .refl _, (by repeat (first | exact AHeap.le.refl _ | refine AHeap.le.set ?_ _ (by (repeat' (first | assumption | exact AHeap.z1 ‹_›)); first | done | fail))), rfl, rfl⟩
    · obtain ⟨op1, t1, nm1, m1, ⟨vk1, vn1, vs1⟩, ar1⟩ := x
      rw [Pa.Ex.cells_mk] at c6
      dsimp only at c6
      repeat' (first | refine S.nilK ?_ | (refine S.op rfl ?_; first | (show ROpS _ _ (.call 5 _) _ _ _; refine callG rfl rfl ca (by repeat' (first | assumption)) ?_) | refine S.lenS rfl ?_ | (show ROpS _ _ (.call 6 _) _ _ _; refine callG rfl rfl c6 (by repeat' (first | assumption)) ?_) | refine R.mv rfl ?_ | refine R.not rfl ?_ | refine R.extract rfl rfl ?_ | refine R.alloc rfl (fun b hb => ?_) | ((first | refine S.gtr rfl rfl ?_ ?_ | refine S.eqInt rfl rfl ?_ ?_) <;> intro hlt <;> try (exfalso; omega))) | (refine S.op0 rfl ?_; first | refine S.storeS rfl rfl rfl (by rfl) rfl (by first | decide | exact Nat.le_refl _ | exact Nat.le_of_ble_eq_true rfl) ?_) | refine S.seq ?_ | refine S.region ?_ | refine S.condT rfl ?_ | refine S.condF rfl ?_ | refine RRun.skip ?_)
      apply S.ret rr3
      case hx => repeat (first | exact ResAt.nil | apply ResAt.tmp rfl)
      exact ⟨_, h, .refl _, (by repeat (first | exact AHeap.le.refl _ | refine AHeap.le.set ?_ _ (by (repeat' (first | assumption)); first | done | fail))), rfl, rfl⟩
  · repeat' (first | refine S.nilK ?_ | (refine S.op rfl ?_; first | (show ROpS _ _ (.call 5 _) _ _ _; refine callG rfl rfl ca (by repeat' (first | assumption)) ?_) | refine S.lenS rfl ?_ | refine R.mv rfl ?_ | refine R.not rfl ?_ | ((first | refine S.gtr rfl rfl ?_ ?_) <;> intro hlt <;> try (exfalso; omega))) | refine S.seq ?_ | refine S.region ?_ | refine S.condT rfl ?_ | refine S.condF rfl ?_ | refine RRun.skip ?_)
    apply S.ret rr3
    case hx => repeat (first | exact ResAt.nil | apply ResAt.tmp rfl)
    exact ⟨_, h, .refl _, (by repeat (first | exact AHeap.le.refl _)), rfl, rfl⟩
end Go.Proofs.Ytdinnoejipmiiaa
