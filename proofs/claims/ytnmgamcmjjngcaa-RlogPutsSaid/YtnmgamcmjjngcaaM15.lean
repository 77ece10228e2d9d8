import Derived.Test.YtnmgamcmjjngcaaM14
set_option linter.unusedVariables false
set_option linter.unusedSimpArgs false
namespace Go.Proofs.Ytnmgamcmjjngcaa
open Go.Av

theorem putNs_len : ∀ (l : List UInt64), (putNs l).length ≤ 10 * l.length
  | [] => by simp [putNs]
  | x :: l => by
    have h1 := putN_len (UInt64.toNat_lt x)
    have h2 := putNs_len l
    rw [show putNs (x :: l) = putN x.toNat ++ putNs l from rfl]
    simp only [List.length_append, List.length_cons]; omega
theorem putText_len {b : List UInt8} (hb : b.length ≤ 100000000) : (putText b).length ≤ 10 + b.length := by
  have := putN_len (n := b.length) (by omega)
  unfold putText; rw [List.length_append]; omega

/-! ### PutEntry -/
def putE (e : Entry) : List UInt8 := putNs [2, e.index, e.term] ++ putNs [UInt64.ofNat (zig e.kind)] ++ putText e.data

/-- plenum/rlog.PutEntry -/
def r41 : RCode :=
  (.seq (.region [
    ⟨(some 1), none, .act, .box (.tmp 0)⟩,
    ⟨(some 2), none, .act, .mv (.const (.slice none 0 0))⟩])
  (.seq (.region [
    ⟨(some 4), none, .act, .build [(.slice none 0 0)] []⟩,
    ⟨(some 5), none, .act, .box (.tmp 4)⟩,
    ⟨(some 3), none, .act, .mv (.tmp 5)⟩])
  (.seq (.region [
    ⟨(some 6), none, .act, .mv (.tmp 3)⟩,
    ⟨(some 7), none, .act, .fieldAddr 0 (.tmp 1)⟩,
    ⟨(some 8), none, .act, .load false 1 (.tmp 7)⟩,
    ⟨(some 9), none, .act, .fieldAddr 1 (.tmp 1)⟩,
    ⟨(some 10), none, .act, .load false 1 (.tmp 9)⟩,
    ⟨(some 11), none, .act, .buildSl 1 [(.int .u64 0)] 3 [(0, (.const (.int .u64 2))), (1, (.tmp 8)), (2, (.tmp 10))]⟩,
    ⟨(some 12), none, .act, .call 78 [(.tmp 6), (.tmp 11)]⟩])
  (.seq (.region [
    ⟨(some 13), none, .act, .mv (.tmp 3)⟩,
    ⟨(some 14), none, .act, .fieldAddr 2 (.tmp 1)⟩,
    ⟨(some 15), none, .act, .load false 1 (.tmp 14)⟩,
    ⟨(some 16), none, .act, .call 81 [(.tmp 13), (.tmp 15)]⟩])
  (.seq (.region [
    ⟨(some 17), none, .act, .mv (.tmp 3)⟩,
    ⟨(some 18), none, .act, .fieldAddr 3 (.tmp 1)⟩,
    ⟨(some 19), none, .act, .load false 1 (.tmp 18)⟩,
    ⟨(some 20), none, .act, .call 82 [(.tmp 17), (.tmp 19)]⟩])
  (.seq (.region [
    ⟨(some 21), none, .act, .mv (.tmp 3)⟩,
    ⟨(some 22), none, .act, .call 79 [(.tmp 21)]⟩,
    ⟨(some 2), none, .act, .mv (.tmp 22)⟩])
  .ret))))))
theorem res41 : ∃ c, Try.f41.body = some c ∧ resCode Try.prog 23 c = some r41 := ⟨_, rfl, by kernel_rfl⟩
theorem rr41 : resRes Try.prog Try.f41.results.toList = some [.tmp 2] := by kernel_rfl
theorem putEntry_spec (e : Entry) (hf : -9223372036854775808 ≤ e.kind ∧ e.kind ≤ 9223372036854775807) (hl : e.data.length ≤ 100000) (h : AHeap) : ACalls Try.prog 41 [.ag e.cells] h (fun x h' => x = bysC (putE e) .ro ∧ h' = h) := by
  obtain ⟨c, hc1, hc2⟩ := res41
  obtain ⟨ix, t, kind, data⟩ := e
  simp only at hf hl
  rw [show Entry.cells ⟨ix, t, kind, data⟩ = [enc ix, enc t, i64 kind, bysC data .ro] from rfl]
  refine ACalls.weak (ACalls.enter Try.func41 hc1 Try.ntmps41 hc2 (Nat.le_of_ble_eq_true rfl) rfl ?_)
  repeat' (first | refine S.nilK ?_ | (refine S.op rfl ?_; first | refine R.mv rfl ?_ | refine R.fieldAddr rfl ?_ | refine R.fieldAddrR rfl ?_ | refine R.loadR rfl rfl ?_ | refine R.load (by decide) rfl (by (repeat' (first | assumption | exact AHeap.set_same _ _ _ | refine AHeap.get_fresh ‹_› ?_ | refine AHeap.so ?_ ?_ | exact AHeap.n1 ‹_› | exact AHeap.n2 ‹_› | exact AHeap.ne_of ‹_› ‹_› | exact AHeap.n4 ‹_› ‹_› | exact AHeap.n5 ‹_› | exact AHeap.n6 ‹_› | exact AHeap.n7 ‹_› ‹_› | exact AHeap.n8 ‹_› ‹_›)); first | done | fail) rfl ?_ | refine R.box rfl rfl rfl (fun b hb => ?_) | refine R.build rfl rfl ?_ | refine R.buildSl rfl rfl rfl (by decide) ?_) | refine S.skip rfl ?_ | refine S.skip0 rfl ?_ | refine S.seq ?_ | refine S.region ?_ | refine S.condT rfl ?_ | refine S.condF rfl ?_ | refine RRun.skip ?_ | refine RRun.block ?_ | refine RRun.inBlock ?_ | refine RRun.exit rfl ?_)
  rename_i b1 hb1
  have hb1' : h b1 = none := hb1
  have hbb : b1 ≠ b := Ne.symm (AHeap.n1 hb)
  have h₁b1 : (h.set b1 (.box [enc ix, enc t, i64 kind, bysC data .ro])) b1 = some (.box [enc ix, enc t, i64 kind, bysC data .ro]) := AHeap.set_same _ _ _
  refine S.op rfl (R.call rfl rfl ((ACalls.subH (nil_le _ _) (wN_full [2, ix, t] rfl (by simp) (by simp) (WAt.start hb))).mono ?_))
  intro x h2 hw2
  have hq2 := hw2.keepBox h₁b1
  have l2 := putNs_len [2, ix, t]
  repeat' (first | refine S.nilK ?_ | (refine S.op rfl ?_; first | refine R.mv rfl ?_ | refine R.fieldAddr rfl ?_ | refine R.fieldAddrR rfl ?_ | refine R.loadR rfl rfl ?_ | refine R.load (by decide) rfl (by (repeat' (first | assumption | exact AHeap.set_same _ _ _ | refine AHeap.get_fresh ‹_› ?_ | refine AHeap.so ?_ ?_ | exact AHeap.n1 ‹_› | exact AHeap.n2 ‹_› | exact AHeap.ne_of ‹_› ‹_› | exact AHeap.n4 ‹_› ‹_› | exact AHeap.n5 ‹_› | exact AHeap.n6 ‹_› | exact AHeap.n7 ‹_› ‹_› | exact AHeap.n8 ‹_› ‹_›)); first | done | fail) rfl ?_ | refine R.box rfl rfl rfl (fun b hb => ?_) | refine R.build rfl rfl ?_ | refine R.buildSl rfl rfl rfl (by decide) ?_) | refine S.skip rfl ?_ | refine S.skip0 rfl ?_ | refine S.seq ?_ | refine S.region ?_ | refine S.condT rfl ?_ | refine S.condF rfl ?_ | refine RRun.skip ?_ | refine RRun.block ?_ | refine RRun.inBlock ?_ | refine RRun.exit rfl ?_)
  refine S.op rfl (R.call rfl rfl ((wI_spec kind hf b _ h2 _ (by simp only [List.nil_append, List.length_cons, List.length_nil] at l2 ⊢; omega) hw2).mono ?_))
  intro x h3 hw3
  have hq3 := hw3.keepBox h₁b1
  have l3 := putNs_len [UInt64.ofNat (zig kind)]
  repeat' (first | refine S.nilK ?_ | (refine S.op rfl ?_; first | refine R.mv rfl ?_ | refine R.fieldAddr rfl ?_ | refine R.fieldAddrR rfl ?_ | refine R.loadR rfl rfl ?_ | refine R.load (by decide) rfl (by (repeat' (first | assumption | exact AHeap.set_same _ _ _ | refine AHeap.get_fresh ‹_› ?_ | refine AHeap.so ?_ ?_ | exact AHeap.n1 ‹_› | exact AHeap.n2 ‹_› | exact AHeap.ne_of ‹_› ‹_› | exact AHeap.n4 ‹_› ‹_› | exact AHeap.n5 ‹_› | exact AHeap.n6 ‹_› | exact AHeap.n7 ‹_› ‹_› | exact AHeap.n8 ‹_› ‹_›)); first | done | fail) rfl ?_ | refine R.box rfl rfl rfl (fun b hb => ?_) | refine R.build rfl rfl ?_ | refine R.buildSl rfl rfl rfl (by decide) ?_) | refine S.skip rfl ?_ | refine S.skip0 rfl ?_ | refine S.seq ?_ | refine S.region ?_ | refine S.condT rfl ?_ | refine S.condF rfl ?_ | refine RRun.skip ?_ | refine RRun.block ?_ | refine RRun.inBlock ?_ | refine RRun.exit rfl ?_)
  refine S.op rfl (R.call rfl rfl ((wText_spec data (by omega) b _ h3 _ (by simp only [List.nil_append, List.length_append, List.length_cons, List.length_nil] at l2 l3 ⊢; omega) hw3).mono ?_))
  intro x h4 hw4
  obtain ⟨c0, hp, _⟩ := id hw4
  have l4 := putText_len (b := data) (by omega)
  repeat' (first | refine S.nilK ?_ | (refine S.op rfl ?_; first | refine callS rfl rfl (wBytes_spec b h4 _ (by simp only [List.nil_append, List.length_append, List.length_cons, List.length_nil] at l2 l3 ⊢; omega) c0 hp) ?_ | refine R.mv rfl ?_ | refine R.fieldAddr rfl ?_ | refine R.fieldAddrR rfl ?_ | refine R.loadR rfl rfl ?_ | refine R.load (by decide) rfl (by (repeat' (first | assumption | exact AHeap.set_same _ _ _ | refine AHeap.get_fresh ‹_› ?_ | refine AHeap.so ?_ ?_ | exact AHeap.n1 ‹_› | exact AHeap.n2 ‹_› | exact AHeap.ne_of ‹_› ‹_› | exact AHeap.n4 ‹_› ‹_› | exact AHeap.n5 ‹_› | exact AHeap.n6 ‹_› | exact AHeap.n7 ‹_› ‹_› | exact AHeap.n8 ‹_› ‹_›)); first | done | fail) rfl ?_ | refine R.box rfl rfl rfl (fun b hb => ?_) | refine R.build rfl rfl ?_ | refine R.buildSl rfl rfl rfl (by decide) ?_) | refine S.skip rfl ?_ | refine S.skip0 rfl ?_ | refine S.seq ?_ | refine S.region ?_ | refine S.condT rfl ?_ | refine S.condF rfl ?_ | refine RRun.skip ?_ | refine RRun.block ?_ | refine RRun.inBlock ?_ | refine RRun.exit rfl ?_)
  apply S.ret rr41
  case hx => repeat (first | exact ResAt.nil | apply ResAt.tmp rfl | apply ResAt.cellA rfl (by (repeat' (first | assumption | exact AHeap.set_same _ _ _ | refine AHeap.get_fresh ‹_› ?_ | refine AHeap.so ?_ ?_ | exact AHeap.n1 ‹_› | exact AHeap.n2 ‹_› | exact AHeap.ne_of ‹_› ‹_› | exact AHeap.n4 ‹_› ‹_› | exact AHeap.n5 ‹_› | exact AHeap.n6 ‹_› | exact AHeap.n7 ‹_› ‹_› | exact AHeap.n8 ‹_› ‹_›)); first | done | fail) (by rfl) | apply ResAt.cell1 rfl (by (repeat' (first | assumption | exact AHeap.set_same _ _ _ | refine AHeap.get_fresh ‹_› ?_ | refine AHeap.so ?_ ?_ | exact AHeap.n1 ‹_› | exact AHeap.n2 ‹_› | exact AHeap.ne_of ‹_› ‹_› | exact AHeap.n4 ‹_› ‹_› | exact AHeap.n5 ‹_› | exact AHeap.n6 ‹_› | exact AHeap.n7 ‹_› ‹_› | exact AHeap.n8 ‹_› ‹_›)); first | done | fail) (by rfl))
  exact ⟨_, h, .refl _, fun x o e => hw4.le x o (AHeap.get_fresh hb1 e), rfl, rfl⟩

/-! ### PutMembers -/

theorem RRun.freezeU {P : Program} {ro : Option Nat} {n : Nat} {l : List (Nat × AV)} {h : AHeap} {Q : Option Code → AEnv → AHeap → Prop} {k : List RT} {t br cap len : Nat} {bs : List SE} {sp : List AV} (hlen0 : len = bs.length) (hl : Env.get l t = some (slAt br 0 len cap))
    (hrow : h br = some (.box (bs.map enc ++ sp))) (hc : bs.length ≤ cap) (hmax : cap ≤ maxLen) (H : RRunG P ro n k (Env.get ((t, u64s bs) :: l)) (h.del br) Q) : RRunG P ro n k (Env.get l) h Q := by
  subst hlen0
  intro todo ht ds a w hs b cs hb
  have hr := hs.rel
  have r1 := hr.del br
  have e1 := Evol.del h w br
  obtain ⟨y, hy, cc, tt, rfl, hvr⟩ := hr br _ hrow
  have hvr' := hvr.mono e1.stab
  have hflat : (bs.map fun x => [enc x]).flatten = bs.map enc := by
    clear hrow hvr hvr' hl H hc
    induction bs with
    | nil => rfl
    | cons a bs ih => simp [ih]
  have hfl : VRels (stab (h.del br) w) (bs.map fun x => [enc x]).flatten (cc.toList.take bs.length) := by
    have := hvr'.take bs.length
    rw [List.take_append_of_le_length (by simp), List.take_of_length_le (by simp)] at this
    rw [hflat]; exact this
  have hold : holdsAt (stab (h.del br) w) br 0 (cc.toList.take bs.length) := fun j v hj => by
    rw [List.getElem?_take] at hj
    split at hj
    · simp only [stab, AHeap.del_same]
      rw [cell_of_cells hy, Nat.zero_add]
      simpa using hj
    · cases hj
  have hlen : (bs.map fun x => [enc x]).length = bs.length := by simp
  have hnew : VRel (stab (h.del br) w) (u64s bs) (.slice (some ⟨br, 0, none⟩) bs.length cap) := by
    have := VRel.sl (st := stab (h.del br) w) 1 (bs.map fun x => [enc x]) .ro br 0 cap _ hfl hold (fun e he => by
      simp only [List.mem_map] at he
      obtain ⟨_, _, rfl⟩ := he; rfl) (by rw [hlen]; exact hc) hmax trivial
    rw [hlen] at this
    exact this
  have hs' : St n ds (Env.get ((t, u64s bs) :: l)) (h.del br) a w := ⟨hs.defers, hs.size, fun t' x hx => by
    by_cases he : t' = t
    · subst he
      obtain ⟨u, h1, h2⟩ := hs.env t' _ hl
      have hu := h2.inv_v
      subst hu
      have : x = u64s bs := by simpa [Env.get] using hx.symm
      subst this
      exact ⟨_, h1, hnew⟩
    · have hx' : Env.get l t' = some x := by
        simp only [Env.get] at hx
        have : Nat.beq t' t = false := by cases hb : Nat.beq t' t with | false => rfl | true => exact absurd (Nat.eq_of_beq_eq_true hb) he
        rwa [this] at hx
      obtain ⟨u, h1, h2⟩ := hs.env t' x hx'
      exact ⟨u, h1, h2.mono e1.stab⟩, r1⟩
  obtain ⟨a', w', t', j, E'', h'', ms, s, q1, q2, q3, q4, q5⟩ := H todo ht ds a w hs' b cs hb
  exact ⟨a', w', t', j, E'', h'', ms, s, q1, q2, q3, e1.trans q4, q5⟩

/-- The members that are put. -/
def mems (l : List UInt64) : List UInt64 := (dd (srt l)).take 9
def putM (l : List UInt64) : List UInt8 := putNs [UInt64.ofNat (mems l).length] ++ putNs (mems l)

/-- plenum/rlog.PutMembers -/
def r45 : RCode :=
  (.seq (.region [
    ⟨(some 2), none, .act, .mv (.const (.slice none 0 0))⟩])
  (.seq (.region [
    ⟨(some 4), none, .act, .mv (.tmp 0)⟩,
    ⟨(some 5), none, .act, .call 87 [(.tmp 4)]⟩,
    ⟨(some 6), none, .act, .call 86 [(.tmp 5)]⟩,
    ⟨(some 7), none, .act, .call 85 [(.tmp 6)]⟩,
    ⟨(some 0), none, .act, .mv (.tmp 7)⟩])
  (.seq (.region [
    ⟨(some 8), none, .act, .mv (.tmp 0)⟩,
    ⟨(some 9), none, .act, .mv (.tmp 0)⟩,
    ⟨(some 10), none, .act, .len (.tmp 9)⟩,
    ⟨(some 11), none, .act, .minmax false [(.tmp 10), (.const (.int .i64 9))]⟩,
    ⟨(some 12), none, .act, .sliceSl 1 (.tmp 8) none (some (.tmp 11)) none⟩,
    ⟨(some 0), none, .act, .mv (.tmp 12)⟩])
  (.seq (.region [
    ⟨(some 13), none, .act, .build [(.slice none 0 0)] []⟩,
    ⟨(some 14), none, .act, .box (.tmp 13)⟩,
    ⟨(some 3), none, .act, .mv (.tmp 14)⟩])
  (.seq (.region [
    ⟨(some 15), none, .act, .mv (.tmp 3)⟩,
    ⟨(some 16), none, .act, .mv (.tmp 0)⟩,
    ⟨(some 17), none, .act, .len (.tmp 16)⟩,
    ⟨(some 18), none, .act, .convInt .u64 (.tmp 17)⟩,
    ⟨(some 19), none, .act, .buildSl 1 [(.int .u64 0)] 1 [(0, (.tmp 18))]⟩,
    ⟨(some 20), none, .act, .call 78 [(.tmp 15), (.tmp 19)]⟩])
  (.seq (.region [
    ⟨(some 21), none, .act, .mv (.tmp 3)⟩,
    ⟨(some 22), none, .act, .mv (.tmp 0)⟩,
    ⟨(some 23), none, .act, .call 78 [(.tmp 21), (.tmp 22)]⟩])
  (.seq (.region [
    ⟨(some 24), none, .act, .mv (.tmp 3)⟩,
    ⟨(some 25), none, .act, .call 79 [(.tmp 24)]⟩,
    ⟨(some 2), none, .act, .mv (.tmp 25)⟩])
  .ret)))))))
theorem res45 : ∃ c, Try.f45.body = some c ∧ resCode Try.prog 26 c = some r45 := ⟨_, rfl, by kernel_rfl⟩
theorem rr45 : resRes Try.prog Try.f45.results.toList = some [.tmp 2] := by kernel_rfl

def r45r : RCode :=
  (.seq (.region [
    ⟨(some 8), none, .act, .mv (.tmp 0)⟩,
    ⟨(some 9), none, .act, .mv (.tmp 0)⟩,
    ⟨(some 10), none, .act, .len (.tmp 9)⟩,
    ⟨(some 11), none, .act, .minmax false [(.tmp 10), (.const (.int .i64 9))]⟩,
    ⟨(some 12), none, .act, .sliceSl 1 (.tmp 8) none (some (.tmp 11)) none⟩,
    ⟨(some 0), none, .act, .mv (.tmp 12)⟩])
  (.seq (.region [
    ⟨(some 13), none, .act, .build [(.slice none 0 0)] []⟩,
    ⟨(some 14), none, .act, .box (.tmp 13)⟩,
    ⟨(some 3), none, .act, .mv (.tmp 14)⟩])
  (.seq (.region [
    ⟨(some 15), none, .act, .mv (.tmp 3)⟩,
    ⟨(some 16), none, .act, .mv (.tmp 0)⟩,
    ⟨(some 17), none, .act, .len (.tmp 16)⟩,
    ⟨(some 18), none, .act, .convInt .u64 (.tmp 17)⟩,
    ⟨(some 19), none, .act, .buildSl 1 [(.int .u64 0)] 1 [(0, (.tmp 18))]⟩,
    ⟨(some 20), none, .act, .call 78 [(.tmp 15), (.tmp 19)]⟩])
  (.seq (.region [
    ⟨(some 21), none, .act, .mv (.tmp 3)⟩,
    ⟨(some 22), none, .act, .mv (.tmp 0)⟩,
    ⟨(some 23), none, .act, .call 78 [(.tmp 21), (.tmp 22)]⟩])
  (.seq (.region [
    ⟨(some 24), none, .act, .mv (.tmp 3)⟩,
    ⟨(some 25), none, .act, .call 79 [(.tmp 24)]⟩,
    ⟨(some 2), none, .act, .mv (.tmp 25)⟩])
  .ret)))))

theorem pm_rest (D : List UInt64) (hD : D.length ≤ 49) (h : AHeap) :
    RRun Try.prog Try.f45 26 [.code r45r] (Env.get [(0, u64s D)]) h (Weak fun x h' => x = bysC (putNs [UInt64.ofNat (D.take 9).length] ++ putNs (D.take 9)) .ro ∧ h' = h) := by
  unfold r45r
  have hla : (D.map fun x => [enc x]).length = D.length := by simp
  have htk : (D.map fun x => [enc x]).take ((min D.length 9 : Nat) : Int).toNat = (D.take 9).map fun x => [enc x] := by
    have e : ((min D.length 9 : Nat) : Int).toNat = min D.length 9 := by omega
    rw [e, ← List.map_take]
    congr 1
    rcases Nat.le_total D.length 9 with hh | hh
    · rw [Nat.min_eq_left hh, List.take_of_length_le (Nat.le_refl _), List.take_of_length_le hh]
    · rw [Nat.min_eq_right hh]
  have hmin : minInt [9] ((D.map fun x => [enc x]).length : Int) = ((min D.length 9 : Nat) : Int) := by
    simp only [minInt, hla]
    split <;> omega
  repeat' (first | refine S.nilK ?_ | (refine S.op rfl ?_; first | refine S.minIs (r := ((min D.length 9 : Nat) : Int)) rfl hmin ?_ | refine S.sliceH rfl rfl (by omega) (by rw [hla]; omega) (by decide) ?_ | refine R.mv rfl ?_ | refine R.len rfl ?_ | refine R.lenA rfl ?_ | refine R.lenStr rfl ?_ | refine S.convIU rfl (by omega) ?_ | refine S.convUI rfl (by omega) ?_ | refine R.convInt rfl ?_ | refine R.box rfl rfl rfl (fun b hb => ?_) | refine R.build rfl rfl ?_ | refine R.buildSl rfl rfl rfl (by decide) ?_ | refine R.minmax rfl ?_) | refine S.skip rfl ?_ | refine S.skip0 rfl ?_ | refine S.seq ?_ | refine S.region ?_ | refine S.condT rfl ?_ | refine S.condF rfl ?_ | refine RRun.skip ?_ | refine RRun.block ?_ | refine RRun.inBlock ?_ | refine RRun.exit rfl ?_)
  rw [htk]
  have h9 : (D.take 9).length ≤ 9 := by simp; omega
  have hconv : IntKind.u64.wrap ((((D.take 9).map fun x => [enc x]).length : Nat) : Int) = ((UInt64.ofNat (D.take 9).length).toNat : Int) := by
    have e1 : ((D.take 9).map fun x => [enc x]).length = (D.take 9).length := by simp
    have e2 : (UInt64.ofNat (D.take 9).length).toNat = (D.take 9).length := by simp; omega
    rw [e1, e2]
    generalize (D.take 9).length = q at h9
    exact wrap_u64N (by omega)
  rw [hconv]
  generalize D.take 9 = M at h9
  refine S.op rfl (R.call rfl rfl ((ACalls.subH (nil_le _ _) (wN_full [UInt64.ofNat M.length] rfl (by simp) (by simp) (WAt.start hb))).mono ?_))
  intro x h2 hw2
  have l2 := putNs_len [UInt64.ofNat M.length]
  repeat' (first | refine S.nilK ?_ | (refine S.op rfl ?_; first | refine R.mv rfl ?_ | refine R.len rfl ?_ | refine R.lenA rfl ?_ | refine R.lenStr rfl ?_ | refine S.convIU rfl (by omega) ?_ | refine S.convUI rfl (by omega) ?_ | refine R.convInt rfl ?_ | refine R.box rfl rfl rfl (fun b hb => ?_) | refine R.build rfl rfl ?_ | refine R.buildSl rfl rfl rfl (by decide) ?_ | refine R.minmax rfl ?_) | refine S.skip rfl ?_ | refine S.skip0 rfl ?_ | refine S.seq ?_ | refine S.region ?_ | refine S.condT rfl ?_ | refine S.condF rfl ?_ | refine RRun.skip ?_ | refine RRun.block ?_ | refine RRun.inBlock ?_ | refine RRun.exit rfl ?_)
  refine S.op rfl (R.call rfl rfl ((wN_spec M (by omega) b _ h2 _ (by simp only [List.nil_append, List.length_cons, List.length_nil] at l2 ⊢; omega) hw2).mono ?_))
  intro x h3 hw3
  obtain ⟨c0, hp, _⟩ := id hw3
  have l3 := putNs_len M
  repeat' (first | refine S.nilK ?_ | (refine S.op rfl ?_; first | refine callS rfl rfl (wBytes_spec b h3 _ (by simp only [List.nil_append, List.length_append, List.length_cons, List.length_nil] at l2 l3 ⊢; omega) c0 hp) ?_ | refine R.mv rfl ?_ | refine R.len rfl ?_ | refine R.lenA rfl ?_ | refine R.lenStr rfl ?_ | refine S.convIU rfl (by omega) ?_ | refine S.convUI rfl (by omega) ?_ | refine R.convInt rfl ?_ | refine R.box rfl rfl rfl (fun b hb => ?_) | refine R.build rfl rfl ?_ | refine R.buildSl rfl rfl rfl (by decide) ?_ | refine R.minmax rfl ?_) | refine S.skip rfl ?_ | refine S.skip0 rfl ?_ | refine S.seq ?_ | refine S.region ?_ | refine S.condT rfl ?_ | refine S.condF rfl ?_ | refine RRun.skip ?_ | refine RRun.block ?_ | refine RRun.inBlock ?_ | refine RRun.exit rfl ?_)
  apply S.ret rr45
  case hx => repeat (first | exact ResAt.nil | apply ResAt.tmp rfl | apply ResAt.cellA rfl (by (repeat' (first | assumption | exact AHeap.set_same _ _ _ | refine AHeap.get_fresh ‹_› ?_ | refine AHeap.so ?_ ?_ | exact AHeap.n1 ‹_› | exact AHeap.n2 ‹_› | exact AHeap.ne_of ‹_› ‹_› | exact AHeap.n4 ‹_› ‹_› | exact AHeap.n5 ‹_› | exact AHeap.n6 ‹_› | exact AHeap.n7 ‹_› ‹_› | exact AHeap.n8 ‹_› ‹_›)); first | done | fail) (by rfl) | apply ResAt.cell1 rfl (by (repeat' (first | assumption | exact AHeap.set_same _ _ _ | refine AHeap.get_fresh ‹_› ?_ | refine AHeap.so ?_ ?_ | exact AHeap.n1 ‹_› | exact AHeap.n2 ‹_› | exact AHeap.ne_of ‹_› ‹_› | exact AHeap.n4 ‹_› ‹_› | exact AHeap.n5 ‹_› | exact AHeap.n6 ‹_› | exact AHeap.n7 ‹_› ‹_› | exact AHeap.n8 ‹_› ‹_›)); first | done | fail) (by rfl))
  exact ⟨_, h, .refl _, hw3.le, rfl, rfl⟩

theorem putMembers_spec (l : List UInt64) (hl : l.length ≤ 49) (h : AHeap) : ACalls Try.prog 45 [u64s l] h (fun x h' => x = bysC (putM l) .ro ∧ h' = h) := by
  obtain ⟨c, hc1, hc2⟩ := res45
  refine ACalls.weak (ACalls.enter Try.func45 hc1 Try.ntmps45 hc2 (Nat.le_of_ble_eq_true rfl) rfl ?_)
  have hdl : (dd (srt l)).length ≤ 49 := by
    have := dd_len (srt l)
    rw [srt_len] at this; omega
  have next := pm_rest (dd (srt l)) hdl h
  repeat' (first | refine S.nilK ?_ | (refine S.op rfl ?_; first | refine R.mv rfl ?_ | refine R.len rfl ?_ | refine R.lenA rfl ?_ | refine R.lenStr rfl ?_ | refine S.convIU rfl (by omega) ?_ | refine S.convUI rfl (by omega) ?_ | refine R.convInt rfl ?_ | refine R.box rfl rfl rfl (fun b hb => ?_) | refine R.build rfl rfl ?_ | refine R.buildSl rfl rfl rfl (by decide) ?_ | refine R.minmax rfl ?_) | refine S.skip rfl ?_ | refine S.skip0 rfl ?_ | refine S.seq ?_ | refine S.region ?_ | refine S.condT rfl ?_ | refine S.condF rfl ?_ | refine RRun.skip ?_ | refine RRun.block ?_ | refine RRun.inBlock ?_ | refine RRun.exit rfl ?_)
  refine S.op rfl (R.call rfl rfl ((values_fn l h).mono ?_))
  rintro x h1 ⟨q, hq, rfl, rfl⟩
  repeat' (first | refine S.nilK ?_ | (refine S.op rfl ?_; first | refine R.mv rfl ?_ | refine R.len rfl ?_ | refine R.lenA rfl ?_ | refine R.lenStr rfl ?_ | refine S.convIU rfl (by omega) ?_ | refine S.convUI rfl (by omega) ?_ | refine R.convInt rfl ?_ | refine R.box rfl rfl rfl (fun b hb => ?_) | refine R.build rfl rfl ?_ | refine R.buildSl rfl rfl rfl (by decide) ?_ | refine R.minmax rfl ?_) | refine S.skip rfl ?_ | refine S.skip0 rfl ?_ | refine S.seq ?_ | refine S.region ?_ | refine S.condT rfl ?_ | refine S.condF rfl ?_ | refine RRun.skip ?_ | refine RRun.block ?_ | refine RRun.inBlock ?_ | refine RRun.exit rfl ?_)
  refine S.op rfl (R.call rfl rfl ((sorted_spec l hl q _ (AHeap.set_same _ _ _)).mono ?_))
  rintro x h2 ⟨B, g1, g2, g3⟩
  repeat' (first | refine S.nilK ?_ | (refine S.op rfl ?_; first | refine R.mv rfl ?_ | refine R.len rfl ?_ | refine R.lenA rfl ?_ | refine R.lenStr rfl ?_ | refine S.convIU rfl (by omega) ?_ | refine S.convUI rfl (by omega) ?_ | refine R.convInt rfl ?_ | refine R.box rfl rfl rfl (fun b hb => ?_) | refine R.build rfl rfl ?_ | refine R.buildSl rfl rfl rfl (by decide) ?_ | refine R.minmax rfl ?_) | refine S.skip rfl ?_ | refine S.skip0 rfl ?_ | refine S.seq ?_ | refine S.region ?_ | refine S.condT rfl ?_ | refine S.condF rfl ?_ | refine RRun.skip ?_ | refine RRun.block ?_ | refine RRun.inBlock ?_ | refine RRun.exit rfl ?_)
  refine S.op rfl (R.call rfl rfl ((compact_spec (srt l) (by rw [srt_len]; omega) x B h2 g1).mono ?_))
  rintro y h3 ⟨k1, k2⟩
  have hle : h.le h3 := fun z o e => by
    have hz : h2 z = some o := g2 z o (AHeap.get_fresh hq e)
    have hB : ¬ B z := fun hb => by have := g3 z hb; rw [AHeap.get_fresh hq e] at this; cases this
    exact ⟨o, by rw [k2 z hB]; exact hz, .refl o⟩
  rcases k1 with ⟨e1, rfl, _⟩ | ⟨b, cap, sp, rfl, e2, e3, e4, e5, e6⟩
  · rw [e1] at next
    have hm : mems l = List.take 9 [] := by unfold mems; rw [e1]
    unfold putM
    rw [hm]
    repeat' (first | ((show RRun _ _ _ (.code r45r :: _) _ _ _; exact RRun.sub hle (S.keep [0] rfl (RRun.envs (.cons 0 (.nilSl 1 (c := .ro) trivial) .nil) next)))) | refine S.nilK ?_ | (refine S.op rfl ?_; first | refine R.mv rfl ?_ | refine R.len rfl ?_ | refine R.lenA rfl ?_ | refine R.lenStr rfl ?_ | refine S.convIU rfl (by omega) ?_ | refine S.convUI rfl (by omega) ?_ | refine R.convInt rfl ?_ | refine R.box rfl rfl rfl (fun b hb => ?_) | refine R.build rfl rfl ?_ | refine R.buildSl rfl rfl rfl (by decide) ?_ | refine R.minmax rfl ?_) | refine S.skip rfl ?_ | refine S.skip0 rfl ?_ | refine S.seq ?_ | refine S.region ?_ | refine S.condT rfl ?_ | refine S.condF rfl ?_ | refine RRun.skip ?_ | refine RRun.block ?_ | refine RRun.inBlock ?_ | refine RRun.exit rfl ?_)
  · have hb : h b = none := by
      have := g3 b ((e6 b).2 rfl)
      exact (AHeap.fresh_set this).2
    have hle2 : h.le (h3.del b) := hle.del hb
    repeat' (first | ((show RRun _ _ _ (.code r45r :: _) _ _ _; exact S.keep [0] rfl (RRun.freezeU (t := 0) (bs := dd (srt l)) rfl rfl e2 (by omega) e4 (RRun.sub hle2 (S.keep [0] rfl next))))) | refine S.nilK ?_ | (refine S.op rfl ?_; first | refine R.mv rfl ?_ | refine R.len rfl ?_ | refine R.lenA rfl ?_ | refine R.lenStr rfl ?_ | refine S.convIU rfl (by omega) ?_ | refine S.convUI rfl (by omega) ?_ | refine R.convInt rfl ?_ | refine R.box rfl rfl rfl (fun b hb => ?_) | refine R.build rfl rfl ?_ | refine R.buildSl rfl rfl rfl (by decide) ?_ | refine R.minmax rfl ?_) | refine S.skip rfl ?_ | refine S.skip0 rfl ?_ | refine S.seq ?_ | refine S.region ?_ | refine S.condT rfl ?_ | refine S.condF rfl ?_ | refine RRun.skip ?_ | refine RRun.block ?_ | refine RRun.inBlock ?_ | refine RRun.exit rfl ?_)

end Go.Proofs.Ytnmgamcmjjngcaa
