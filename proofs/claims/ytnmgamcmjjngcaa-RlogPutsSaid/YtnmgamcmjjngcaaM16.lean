import Derived.Test.YtnmgamcmjjngcaaM15
set_option linter.unusedVariables false
set_option linter.unusedSimpArgs false
namespace Go.Proofs.Ytnmgamcmjjngcaa
open Go.Av

/-! ### PutSnap -/
def putS (s : Snap) : List UInt8 := putNs [3, s.index, s.term] ++ putText (putM s.members) ++ putText s.data

theorem putM_len {l : List UInt64} : (putM l).length ≤ 100 := by
  have h1 := putNs_len [UInt64.ofNat (mems l).length]
  have h2 := putNs_len (mems l)
  have h3 : (mems l).length ≤ 9 := by unfold mems; simp; omega
  unfold putM
  simp only [List.length_append, List.length_cons, List.length_nil] at h1 h2 ⊢
  omega

/-- plenum/rlog.PutSnap -/
def r43 : RCode :=
  (.seq (.region [
    ⟨(some 1), none, .act, .box (.tmp 0)⟩,
    ⟨(some 2), none, .act, .mv (.const (.slice none 0 0))⟩])
  (.seq (.region [
    ⟨(some 4), none, .act, .build [(.slice none 0 0)] []⟩,
    ⟨(some 5), none, .act, .box (.tmp 4)⟩,
    ⟨(some 3), none, .act, .mv (.tmp 5)⟩])
  (.seq (.region [
    ⟨(some 6), none, .act, .mv (.tmp 3)⟩,
    ⟨(some 7), none, .act, .fieldAddr 0 (.tmp 1)⟩,
    ⟨(some 8), none, .act, .load false 1 (.tmp 7)⟩,
    ⟨(some 9), none, .act, .fieldAddr 1 (.tmp 1)⟩,
    ⟨(some 10), none, .act, .load false 1 (.tmp 9)⟩,
    ⟨(some 11), none, .act, .buildSl 1 [(.int .u64 0)] 3 [(0, (.const (.int .u64 3))), (1, (.tmp 8)), (2, (.tmp 10))]⟩,
    ⟨(some 12), none, .act, .call 78 [(.tmp 6), (.tmp 11)]⟩])
  (.seq (.region [
    ⟨(some 13), none, .act, .mv (.tmp 3)⟩,
    ⟨(some 14), none, .act, .fieldAddr 2 (.tmp 1)⟩,
    ⟨(some 15), none, .act, .load false 1 (.tmp 14)⟩,
    ⟨(some 16), none, .act, .call 45 [(.tmp 15)]⟩,
    ⟨(some 17), none, .act, .call 82 [(.tmp 13), (.tmp 16)]⟩])
  (.seq (.region [
    ⟨(some 18), none, .act, .mv (.tmp 3)⟩,
    ⟨(some 19), none, .act, .fieldAddr 3 (.tmp 1)⟩,
    ⟨(some 20), none, .act, .load false 1 (.tmp 19)⟩,
    ⟨(some 21), none, .act, .call 82 [(.tmp 18), (.tmp 20)]⟩])
  (.seq (.region [
    ⟨(some 22), none, .act, .mv (.tmp 3)⟩,
    ⟨(some 23), none, .act, .call 79 [(.tmp 22)]⟩,
    ⟨(some 2), none, .act, .mv (.tmp 23)⟩])
  .ret))))))
theorem res43 : ∃ c, Try.f43.body = some c ∧ resCode Try.prog 24 c = some r43 := ⟨_, rfl, by kernel_rfl⟩
theorem rr43 : resRes Try.prog Try.f43.results.toList = some [.tmp 2] := by kernel_rfl
theorem putSnap_spec (s : Snap) (hm : s.members.length ≤ 49) (hl : s.data.length ≤ 100000) (h : AHeap) : ACalls Try.prog 43 [.ag s.cells] h (fun x h' => x = bysC (putS s) .ro ∧ h' = h) := by
  obtain ⟨c, hc1, hc2⟩ := res43
  obtain ⟨ix, t, ms, data⟩ := s
  simp only at hm hl
  rw [show Snap.cells ⟨ix, t, ms, data⟩ = [enc ix, enc t, u64s ms, bysC data .ro] from rfl]
  refine ACalls.weak (ACalls.enter Try.func43 hc1 Try.ntmps43 hc2 (Nat.le_of_ble_eq_true rfl) rfl ?_)
  repeat' (first | refine S.nilK ?_ | (refine S.op rfl ?_; first | refine R.mv rfl ?_ | refine R.fieldAddr rfl ?_ | refine R.fieldAddrR rfl ?_ | refine R.loadR rfl rfl ?_ | refine R.load (by decide) rfl (by (repeat' (first | assumption | exact AHeap.set_same _ _ _ | refine AHeap.get_fresh ‹_› ?_ | refine AHeap.so ?_ ?_ | exact AHeap.n1 ‹_› | exact AHeap.n2 ‹_› | exact AHeap.ne_of ‹_› ‹_› | exact AHeap.n4 ‹_› ‹_› | exact AHeap.n5 ‹_› | exact AHeap.n6 ‹_› | exact AHeap.n7 ‹_› ‹_› | exact AHeap.n8 ‹_› ‹_›)); first | done | fail) rfl ?_ | refine R.box rfl rfl rfl (fun b hb => ?_) | refine R.build rfl rfl ?_ | refine R.buildSl rfl rfl rfl (by decide) ?_) | refine S.skip rfl ?_ | refine S.skip0 rfl ?_ | refine S.seq ?_ | refine S.region ?_ | refine S.condT rfl ?_ | refine S.condF rfl ?_ | refine RRun.skip ?_ | refine RRun.block ?_ | refine RRun.inBlock ?_ | refine RRun.exit rfl ?_)
  rename_i b1 hb1
  have h₁b1 : (h.set b1 (.box [enc ix, enc t, u64s ms, bysC data .ro])) b1 = some (.box [enc ix, enc t, u64s ms, bysC data .ro]) := AHeap.set_same _ _ _
  refine S.op rfl (R.call rfl rfl ((ACalls.subH (nil_le _ _) (wN_full [3, ix, t] rfl (by simp) (by simp) (WAt.start hb))).mono ?_))
  intro x h2 hw2
  have hq2 := hw2.keepBox h₁b1
  have l2 := putNs_len [3, ix, t]
  have l3 := putM_len (l := ms)
  have l3' := putText_len (b := putM ms) (by omega)
  have l4 := putText_len (b := data) (by omega)
  repeat' (first | refine S.nilK ?_ | (refine S.op rfl ?_; first | refine callS rfl rfl (putMembers_spec ms hm _) ?_ | refine R.mv rfl ?_ | refine R.fieldAddr rfl ?_ | refine R.fieldAddrR rfl ?_ | refine R.loadR rfl rfl ?_ | refine R.load (by decide) rfl (by (repeat' (first | assumption | exact AHeap.set_same _ _ _ | refine AHeap.get_fresh ‹_› ?_ | refine AHeap.so ?_ ?_ | exact AHeap.n1 ‹_› | exact AHeap.n2 ‹_› | exact AHeap.ne_of ‹_› ‹_› | exact AHeap.n4 ‹_› ‹_› | exact AHeap.n5 ‹_› | exact AHeap.n6 ‹_› | exact AHeap.n7 ‹_› ‹_› | exact AHeap.n8 ‹_› ‹_›)); first | done | fail) rfl ?_ | refine R.box rfl rfl rfl (fun b hb => ?_) | refine R.build rfl rfl ?_ | refine R.buildSl rfl rfl rfl (by decide) ?_) | refine S.skip rfl ?_ | refine S.skip0 rfl ?_ | refine S.seq ?_ | refine S.region ?_ | refine S.condT rfl ?_ | refine S.condF rfl ?_ | refine RRun.skip ?_ | refine RRun.block ?_ | refine RRun.inBlock ?_ | refine RRun.exit rfl ?_)
  refine S.op rfl (R.call rfl rfl ((wText_spec (putM ms) (by omega) b _ h2 _ (by simp only [List.nil_append, List.length_cons, List.length_nil] at l2 ⊢; omega) hw2).mono ?_))
  intro x h3 hw3
  have hq3 := hw3.keepBox h₁b1
  repeat' (first | refine S.nilK ?_ | (refine S.op rfl ?_; first | refine R.mv rfl ?_ | refine R.fieldAddr rfl ?_ | refine R.fieldAddrR rfl ?_ | refine R.loadR rfl rfl ?_ | refine R.load (by decide) rfl (by (repeat' (first | assumption | exact AHeap.set_same _ _ _ | refine AHeap.get_fresh ‹_› ?_ | refine AHeap.so ?_ ?_ | exact AHeap.n1 ‹_› | exact AHeap.n2 ‹_› | exact AHeap.ne_of ‹_› ‹_› | exact AHeap.n4 ‹_› ‹_› | exact AHeap.n5 ‹_› | exact AHeap.n6 ‹_› | exact AHeap.n7 ‹_› ‹_› | exact AHeap.n8 ‹_› ‹_›)); first | done | fail) rfl ?_ | refine R.box rfl rfl rfl (fun b hb => ?_) | refine R.build rfl rfl ?_ | refine R.buildSl rfl rfl rfl (by decide) ?_) | refine S.skip rfl ?_ | refine S.skip0 rfl ?_ | refine S.seq ?_ | refine S.region ?_ | refine S.condT rfl ?_ | refine S.condF rfl ?_ | refine RRun.skip ?_ | refine RRun.block ?_ | refine RRun.inBlock ?_ | refine RRun.exit rfl ?_)
  refine S.op rfl (R.call rfl rfl ((wText_spec data (by omega) b _ h3 _ (by simp only [List.nil_append, List.length_append, List.length_cons, List.length_nil] at l2 ⊢; omega) hw3).mono ?_))
  intro x h4 hw4
  obtain ⟨c0, hp, _⟩ := id hw4
  repeat' (first | refine S.nilK ?_ | (refine S.op rfl ?_; first | refine callS rfl rfl (wBytes_spec b h4 _ (by simp only [List.nil_append, List.length_append, List.length_cons, List.length_nil] at l2 ⊢; omega) c0 hp) ?_ | refine R.mv rfl ?_ | refine R.fieldAddr rfl ?_ | refine R.fieldAddrR rfl ?_ | refine R.loadR rfl rfl ?_ | refine R.load (by decide) rfl (by (repeat' (first | assumption | exact AHeap.set_same _ _ _ | refine AHeap.get_fresh ‹_› ?_ | refine AHeap.so ?_ ?_ | exact AHeap.n1 ‹_› | exact AHeap.n2 ‹_› | exact AHeap.ne_of ‹_› ‹_› | exact AHeap.n4 ‹_› ‹_› | exact AHeap.n5 ‹_› | exact AHeap.n6 ‹_› | exact AHeap.n7 ‹_› ‹_› | exact AHeap.n8 ‹_› ‹_›)); first | done | fail) rfl ?_ | refine R.box rfl rfl rfl (fun b hb => ?_) | refine R.build rfl rfl ?_ | refine R.buildSl rfl rfl rfl (by decide) ?_) | refine S.skip rfl ?_ | refine S.skip0 rfl ?_ | refine S.seq ?_ | refine S.region ?_ | refine S.condT rfl ?_ | refine S.condF rfl ?_ | refine RRun.skip ?_ | refine RRun.block ?_ | refine RRun.inBlock ?_ | refine RRun.exit rfl ?_)
  apply S.ret rr43
  case hx => repeat (first | exact ResAt.nil | apply ResAt.tmp rfl | apply ResAt.cellA rfl (by (repeat' (first | assumption | exact AHeap.set_same _ _ _ | refine AHeap.get_fresh ‹_› ?_ | refine AHeap.so ?_ ?_ | exact AHeap.n1 ‹_› | exact AHeap.n2 ‹_› | exact AHeap.ne_of ‹_› ‹_› | exact AHeap.n4 ‹_› ‹_› | exact AHeap.n5 ‹_› | exact AHeap.n6 ‹_› | exact AHeap.n7 ‹_› ‹_› | exact AHeap.n8 ‹_› ‹_›)); first | done | fail) (by rfl) | apply ResAt.cell1 rfl (by (repeat' (first | assumption | exact AHeap.set_same _ _ _ | refine AHeap.get_fresh ‹_› ?_ | refine AHeap.so ?_ ?_ | exact AHeap.n1 ‹_› | exact AHeap.n2 ‹_› | exact AHeap.ne_of ‹_› ‹_› | exact AHeap.n4 ‹_› ‹_› | exact AHeap.n5 ‹_› | exact AHeap.n6 ‹_› | exact AHeap.n7 ‹_› ‹_› | exact AHeap.n8 ‹_› ‹_›)); first | done | fail) (by rfl))
  exact ⟨_, h, .refl _, fun x o e => hw4.le x o (AHeap.get_fresh hb1 e), rfl, rfl⟩

/-! ### The reference's numbers and texts -/

section
variable {P : Program} {c : Cls} {E : AEnv} {h : AHeap} {K : AV → AHeap → Prop}
theorem S.remU {x : Operand} {n : Nat} (hx : aev E x = some (.v (.int .u64 (n : Int)))) (hk : K (.v (.int .u64 ((n % 128 : Nat) : Int))) h) : ROpS P c (.bin .rem x (.const (.int .u64 128))) E h K :=
  R.bin hx rfl (show binInt .rem .u64 (n : Int) 128 = some (.int .u64 ((n % 128 : Nat) : Int)) from rfl) hk
theorem S.quoU {x : Operand} {n : Nat} (hn : n < 18446744073709551616) (hx : aev E x = some (.v (.int .u64 (n : Int)))) (hk : K (.v (.int .u64 ((n / 128 : Nat) : Int))) h) : ROpS P c (.bin .quo x (.const (.int .u64 128))) E h K :=
  R.bin hx rfl (show binInt .quo .u64 (n : Int) 128 = some (.int .u64 ((n / 128 : Nat) : Int)) by
    show some (Value.int .u64 (IntKind.u64.wrap ((n : Int).tdiv 128))) = _
    have e : ((n : Int).tdiv 128) = ((n / 128 : Nat) : Int) := rfl
    rw [e, wrap_u64N (by omega)]) hk
theorem S.byteU {x : Operand} {n : Nat} {k : IntKind} (hn : n < 256) (hx : aev E x = some (.v (.int k (n : Int)))) (hk : K (.v (.int .u8 ((UInt8.ofNat n).toNat : Int))) h) : ROpS P c (.convInt .u8 x) E h K := by
  refine R.convInt hx ?_
  have e : (UInt8.ofNat n).toNat = n := by simp; omega
  rw [e] at hk
  rw [wrap_u8N hn]; exact hk
theorem S.add128 {x : Operand} {n : Nat} (hn : n < 128) (hx : aev E x = some (.v (.int .u8 ((UInt8.ofNat n).toNat : Int)))) (hk : K (.v (.int .u8 ((UInt8.ofNat (n + 128)).toNat : Int))) h) : ROpS P c (.bin .add x (.const (.int .u8 128))) E h K := by
  refine R.bin hx rfl rfl ?_
  have e : (UInt8.ofNat n).toNat = n := by simp; omega
  have e2 : (UInt8.ofNat (n + 128)).toNat = n + 128 := by simp; omega
  rw [e2] at hk
  rw [e, show ((n : Nat) : Int) + 128 = ((n + 128 : Nat) : Int) by omega, wrap_u8N (by omega)]; exact hk
end

def r80l0 : RCode :=
  (.seq (.seq (.region [
    ⟨(some 12), none, .act, .mv (.tmp 1)⟩,
    ⟨(some 13), none, .act, .bin .gtr (.tmp 12) (.const (.int .u64 0))⟩])
  (.cond (.tmp 13)
   .skip
   (.exit 0)))
  (.seq (.block 1
   (.region [
     ⟨(some 16), none, .act, .mv (.tmp 1)⟩,
     ⟨(some 17), none, .act, .bin .rem (.tmp 16) (.const (.int .u64 128))⟩,
     ⟨(some 18), none, .act, .convInt .u8 (.tmp 17)⟩,
     ⟨(some 19), none, .act, .bin .add (.tmp 18) (.const (.int .u8 128))⟩,
     ⟨(some 20), none, .act, .buildSl 1 [(.int .u8 0)] 1 [(0, (.tmp 19))]⟩,
     ⟨(some 21), none, .act, .mv (.tmp 5)⟩,
     ⟨(some 22), none, .act, .append 1 1 [(.int .u8 0)] (.tmp 20) (.tmp 21)⟩,
     ⟨(some 5), none, .act, .mv (.tmp 22)⟩]))
  (.region [
    ⟨(some 14), none, .act, .mv (.tmp 1)⟩,
    ⟨(some 15), none, .act, .bin .quo (.tmp 14) (.const (.int .u64 128))⟩,
    ⟨(some 1), none, .act, .mv (.tmp 15)⟩])))
/-- plenum/plenumref01.N -/
def r80 : RCode :=
  (.seq (.region [
    ⟨(some 4), none, .act, .mv (.const (.slice none 0 0))⟩])
  (.seq (.region [
    ⟨(some 6), none, .act, .mv (.tmp 1)⟩,
    ⟨(some 7), none, .act, .bin .rem (.tmp 6) (.const (.int .u64 128))⟩,
    ⟨(some 8), none, .act, .convInt .u8 (.tmp 7)⟩,
    ⟨(some 9), none, .act, .buildSl 1 [(.int .u8 0)] 1 [(0, (.tmp 8))]⟩,
    ⟨(some 5), none, .act, .mv (.tmp 9)⟩])
  (.seq (.seq (.region [
    ⟨(some 10), none, .act, .mv (.tmp 1)⟩,
    ⟨(some 11), none, .act, .bin .quo (.tmp 10) (.const (.int .u64 128))⟩,
    ⟨(some 1), none, .act, .mv (.tmp 11)⟩])
  (.block 0
   (.loop r80l0)))
  (.seq (.region [
    ⟨(some 23), none, .act, .mv (.tmp 0)⟩,
    ⟨(some 24), none, .act, .append 1 1 [(.int .u8 0)] (.const (.slice none 0 0)) (.tmp 23)⟩,
    ⟨(some 25), none, .act, .mv (.tmp 5)⟩,
    ⟨(some 26), none, .act, .append 1 1 [(.int .u8 0)] (.tmp 24) (.tmp 25)⟩,
    ⟨(some 4), none, .act, .mv (.tmp 26)⟩])
  .ret))))
theorem res80 : ∃ c, Try.f80.body = some c ∧ resCode Try.prog 27 c = some r80 := ⟨_, rfl, by kernel_rfl⟩
theorem rr80 : resRes Try.prog Try.f80.results.toList = some [.tmp 4] := by kernel_rfl

theorem refN_loop (bsv : AV) (h₀ : AHeap) (k : List RT) (Q : AV → AHeap → Prop) (tot : List UInt8) (htl : tot.length ≤ 100)
    (hk : ∀ h, h₀.le h → RRun Try.prog Try.f80 27 k (Env.get [(0, bsv), (5, bysC tot .ro)]) h Q) : ∀ (f m : Nat) (part : List UInt8) (h : AHeap), m < f → m < 18446744073709551616 → hiB m ++ part = tot → h₀.le h →
    RRun Try.prog Try.f80 27 (.inLoop r80l0 :: .inBlock 0 :: k) (Env.get [(0, bsv), (1, .v (.int .u64 (m : Int))), (5, bysC part .ro)]) h Q := by
  intro f
  induction f with
  | zero => intro m part h hm; omega
  | succ f ih =>
    intro m part h hf hm ht hle
    by_cases h0 : m = 0
    · subst h0
      rw [hiB_zero, List.nil_append] at ht
      subst ht
      refine RRun.inLoop ?_
      repeat' (first | refine S.nilK ?_ | (refine S.op rfl ?_; first | refine R.mv rfl ?_ | refine S.addI rfl rfl (by omega) ?_ | refine S.addU rfl rfl ?_ | refine S.addUc rfl (by decide) ?_ | refine S.arith rfl rfl rfl ?_ | refine S.convIU rfl (by omega) ?_ | refine S.convUI rfl (by omega) ?_ | refine R.convInt rfl ?_ | refine R.buildSl rfl rfl rfl (by decide) ?_ | ((first | refine S.gtr rfl rfl ?_ ?_) <;> intro hlt <;> try (exfalso; omega))) | refine S.skip rfl ?_ | refine S.skip0 rfl ?_ | refine S.seq ?_ | refine S.region ?_ | refine S.condT rfl ?_ | refine S.condF rfl ?_ | refine RRun.skip ?_ | refine RRun.block ?_ | refine RRun.inBlock ?_ | refine RRun.exit rfl ?_)
      exact S.keep [0, 5] rfl (hk h hle)
    · rw [hiB_pos h0, List.append_assoc] at ht
      have hmod : m % 128 < 128 := Nat.mod_lt _ (by decide)
      have hpl : part.length ≤ 100 := by
        have := congrArg List.length ht
        simp only [List.length_append] at this; omega
      refine RRun.inLoop ?_
      repeat' (first | refine S.nilK ?_ | (refine S.op rfl ?_; first | refine S.remU rfl ?_ | refine S.byteU (by omega) rfl ?_ | refine S.add128 hmod rfl ?_ | refine R.mv rfl ?_ | refine S.addI rfl rfl (by omega) ?_ | refine S.addU rfl rfl ?_ | refine S.addUc rfl (by decide) ?_ | refine S.arith rfl rfl rfl ?_ | refine S.convIU rfl (by omega) ?_ | refine S.convUI rfl (by omega) ?_ | refine R.convInt rfl ?_ | refine R.buildSl rfl rfl rfl (by decide) ?_ | ((first | refine S.gtr rfl rfl ?_ ?_) <;> intro hlt <;> try (exfalso; omega))) | refine S.skip rfl ?_ | refine S.skip0 rfl ?_ | refine S.seq ?_ | refine S.region ?_ | refine S.condT rfl ?_ | refine S.condF rfl ?_ | refine RRun.skip ?_ | refine RRun.block ?_ | refine RRun.inBlock ?_ | refine RRun.exit rfl ?_)
      refine S.op rfl (S.appendG (h₀ := h₀) (c0 := .full) (xs := Go.Av.byteCells [UInt8.ofNat (m % 128 + 128)]) (ys := Go.Av.byteCells part) rfl (.of_le hle) rfl (.sl _ _) rfl (.sl _ _) (one_bytes part) (by simp [Go.Av.byteCells]; omega) (by simp [Go.Av.byteCells]; omega) (fun c' h' g1 _ => ?_))
      repeat' (first | refine S.nilK ?_ | (refine S.op rfl ?_; first | refine S.quoU hm rfl ?_ | refine R.mv rfl ?_ | refine S.addI rfl rfl (by omega) ?_ | refine S.addU rfl rfl ?_ | refine S.addUc rfl (by decide) ?_ | refine S.arith rfl rfl rfl ?_ | refine S.convIU rfl (by omega) ?_ | refine S.convUI rfl (by omega) ?_ | refine R.convInt rfl ?_ | refine R.buildSl rfl rfl rfl (by decide) ?_ | ((first | refine S.gtr rfl rfl ?_ ?_) <;> intro hlt <;> try (exfalso; omega))) | refine S.skip rfl ?_ | refine S.skip0 rfl ?_ | refine S.seq ?_ | refine S.region ?_ | refine S.condT rfl ?_ | refine S.condF rfl ?_ | refine RRun.skip ?_ | refine RRun.block ?_ | refine RRun.inBlock ?_ | refine RRun.exit rfl ?_)
      refine S.keep [0, 1, 5] rfl (RRun.envs (.cons 0 (.refl _) (.cons 1 (.refl _) (.cons 5 (.toRo _ _ _) .nil))) ?_)
      have e : Go.Av.byteCells [UInt8.ofNat (m % 128 + 128)] ++ Go.Av.byteCells part = Go.Av.byteCells ([UInt8.ofNat (m % 128 + 128)] ++ part) := by simp [Go.Av.byteCells]
      rw [e]
      exact ih (m / 128) _ h' (by omega) (by omega) ht g1.le

theorem refN_own (b : List UInt8) (hb : b.length ≤ 1000000) (n : UInt64) (h : AHeap) : ACalls Try.prog 80 [bysC b .ro, enc n] h (fun x h' => ∃ c', x = bysC (b ++ putN n.toNat) c' ∧ Grow h h' c') := by
  obtain ⟨c, hc1, hc2⟩ := res80
  refine ACalls.enter Try.func80 hc1 Try.ntmps80 hc2 (Nat.le_of_ble_eq_true rfl) rfl ?_
  have hn := UInt64.toNat_lt n
  have hpl := putN_len hn
  have hmod : n.toNat % 128 < 128 := Nat.mod_lt _ (by decide)
  repeat' (first | refine S.nilK ?_ | (refine S.op rfl ?_; first | refine S.remU rfl ?_ | refine S.byteU (by omega) rfl ?_ | refine S.quoU hn rfl ?_ | refine R.mv rfl ?_ | refine S.addI rfl rfl (by omega) ?_ | refine S.addU rfl rfl ?_ | refine S.addUc rfl (by decide) ?_ | refine S.arith rfl rfl rfl ?_ | refine S.convIU rfl (by omega) ?_ | refine S.convUI rfl (by omega) ?_ | refine R.convInt rfl ?_ | refine R.buildSl rfl rfl rfl (by decide) ?_ | ((first | refine S.gtr rfl rfl ?_ ?_) <;> intro hlt <;> try (exfalso; omega))) | refine S.skip rfl ?_ | refine S.skip0 rfl ?_ | refine S.seq ?_ | refine S.region ?_ | refine S.condT rfl ?_ | refine S.condF rfl ?_ | refine RRun.skip ?_ | refine RRun.block ?_ | refine RRun.inBlock ?_ | refine RRun.exit rfl ?_)
  refine RRun.loopIn (S.keep [0, 1, 5] rfl (RRun.envs (.cons 0 (.refl _) (.cons 1 (.refl _) (.cons 5 (.toRo 1 (Go.Av.byteCells [UInt8.ofNat (n.toNat % 128)]) .full) .nil))) (refN_loop (bysC b .ro) h _ _ (putN n.toNat) (by omega) (fun h1 hle => ?_) (n.toNat + 1) (n.toNat / 128) [UInt8.ofNat (n.toNat % 128)] h (by omega) (by omega) rfl (.refl _))))
  repeat' (first | refine S.nilK ?_ | (refine S.op rfl ?_; first | refine R.mv rfl ?_ | refine S.addI rfl rfl (by omega) ?_ | refine S.addU rfl rfl ?_ | refine S.addUc rfl (by decide) ?_ | refine S.arith rfl rfl rfl ?_ | refine S.convIU rfl (by omega) ?_ | refine S.convUI rfl (by omega) ?_ | refine R.convInt rfl ?_ | refine R.buildSl rfl rfl rfl (by decide) ?_ | ((first | refine S.gtr rfl rfl ?_ ?_) <;> intro hlt <;> try (exfalso; omega))) | refine S.skip rfl ?_ | refine S.skip0 rfl ?_ | refine S.seq ?_ | refine S.region ?_ | refine S.condT rfl ?_ | refine S.condF rfl ?_ | refine RRun.skip ?_ | refine RRun.block ?_ | refine RRun.inBlock ?_ | refine RRun.exit rfl ?_)
  refine S.op rfl (S.appendG (h₀ := h) (ys := Go.Av.byteCells b) rfl (.of_le hle) rfl .nil rfl (.sl _ _) (one_bytes b) (by simp [Go.Av.byteCells]; omega) (by simp [Go.Av.byteCells]; omega) (fun c2 h2 g2 _ => ?_))
  repeat' (first | refine S.nilK ?_ | (refine S.op rfl ?_; first | refine R.mv rfl ?_ | refine S.addI rfl rfl (by omega) ?_ | refine S.addU rfl rfl ?_ | refine S.addUc rfl (by decide) ?_ | refine S.arith rfl rfl rfl ?_ | refine S.convIU rfl (by omega) ?_ | refine S.convUI rfl (by omega) ?_ | refine R.convInt rfl ?_ | refine R.buildSl rfl rfl rfl (by decide) ?_ | ((first | refine S.gtr rfl rfl ?_ ?_) <;> intro hlt <;> try (exfalso; omega))) | refine S.skip rfl ?_ | refine S.skip0 rfl ?_ | refine S.seq ?_ | refine S.region ?_ | refine S.condT rfl ?_ | refine S.condF rfl ?_ | refine RRun.skip ?_ | refine RRun.block ?_ | refine RRun.inBlock ?_ | refine RRun.exit rfl ?_)
  refine S.op rfl (S.appendG (h₀ := h) (ys := Go.Av.byteCells (putN n.toNat)) rfl g2 rfl (.sl _ _) rfl (.sl _ _) (one_bytes _) (by simp [Go.Av.byteCells]; omega) (by simp [Go.Av.byteCells]; omega) (fun c3 h3 g3 _ => ?_))
  repeat' (first | refine S.nilK ?_ | (refine S.op rfl ?_; first | refine R.mv rfl ?_ | refine S.addI rfl rfl (by omega) ?_ | refine S.addU rfl rfl ?_ | refine S.addUc rfl (by decide) ?_ | refine S.arith rfl rfl rfl ?_ | refine S.convIU rfl (by omega) ?_ | refine S.convUI rfl (by omega) ?_ | refine R.convInt rfl ?_ | refine R.buildSl rfl rfl rfl (by decide) ?_ | ((first | refine S.gtr rfl rfl ?_ ?_) <;> intro hlt <;> try (exfalso; omega))) | refine S.skip rfl ?_ | refine S.skip0 rfl ?_ | refine S.seq ?_ | refine S.region ?_ | refine S.condT rfl ?_ | refine S.condF rfl ?_ | refine RRun.skip ?_ | refine RRun.block ?_ | refine RRun.inBlock ?_ | refine RRun.exit rfl ?_)
  apply S.ret rr80
  case hx => repeat (first | exact ResAt.nil | apply ResAt.tmp rfl | apply ResAt.cellA rfl (by (repeat' (first | assumption | exact AHeap.set_same _ _ _ | refine AHeap.get_fresh ‹_› ?_ | refine AHeap.so ?_ ?_ | exact AHeap.n1 ‹_› | exact AHeap.n2 ‹_› | exact AHeap.ne_of ‹_› ‹_› | exact AHeap.n4 ‹_› ‹_› | exact AHeap.n5 ‹_› | exact AHeap.n6 ‹_› | exact AHeap.n7 ‹_› ‹_› | exact AHeap.n8 ‹_› ‹_›)); first | done | fail) (by rfl) | apply ResAt.cell1 rfl (by (repeat' (first | assumption | exact AHeap.set_same _ _ _ | refine AHeap.get_fresh ‹_› ?_ | refine AHeap.so ?_ ?_ | exact AHeap.n1 ‹_› | exact AHeap.n2 ‹_› | exact AHeap.ne_of ‹_› ‹_› | exact AHeap.n4 ‹_› ‹_› | exact AHeap.n5 ‹_› | exact AHeap.n6 ‹_› | exact AHeap.n7 ‹_› ‹_› | exact AHeap.n8 ‹_› ‹_›)); first | done | fail) (by rfl))
  have e : [] ++ Go.Av.byteCells b ++ Go.Av.byteCells (putN n.toNat) = Go.Av.byteCells (b ++ putN n.toNat) := by simp [Go.Av.byteCells]
  rw [e]
  exact ⟨c3, rfl, g3⟩

theorem refN_spec (b : List UInt8) (hb : b.length ≤ 1000000) (n : UInt64) (h : AHeap) : ACalls Try.prog 80 [bysC b .ro, enc n] h (fun x h' => x = bysC (b ++ putN n.toNat) .ro ∧ h' = h) :=
  ACalls.weak ((refN_own b hb n h).mono fun x h' ⟨c', e, g⟩ => ⟨_, h, e ▸ ALe.toRo _ _ _, g.le, rfl, rfl⟩)

theorem refN_nil (n : UInt64) (h : AHeap) : ACalls Try.prog 80 [.v (.slice none 0 0), enc n] h (fun x h' => x = bysC (putN n.toNat) .ro ∧ h' = h) :=
  ACalls.args (refN_spec [] (by simp) n h) (.cons (.nilSl 1 (c := .ro) trivial) (.cons (.refl _) .nil))

/-- plenum/plenumref01.Text -/
def r83 : RCode :=
  (.seq (.region [
    ⟨(some 4), none, .act, .mv (.const (.slice none 0 0))⟩])
  (.seq (.region [
    ⟨(some 5), none, .act, .mv (.tmp 0)⟩,
    ⟨(some 6), none, .act, .mv (.tmp 1)⟩,
    ⟨(some 7), none, .act, .len (.tmp 6)⟩,
    ⟨(some 8), none, .act, .convInt .u64 (.tmp 7)⟩,
    ⟨(some 9), none, .act, .call 80 [(.tmp 5), (.tmp 8)]⟩,
    ⟨(some 10), none, .act, .mv (.tmp 1)⟩,
    ⟨(some 11), none, .act, .append 1 1 [(.int .u8 0)] (.tmp 9) (.tmp 10)⟩,
    ⟨(some 4), none, .act, .mv (.tmp 11)⟩])
  .ret))
theorem res83 : ∃ c, Try.f83.body = some c ∧ resCode Try.prog 12 c = some r83 := ⟨_, rfl, by kernel_rfl⟩
theorem rr83 : resRes Try.prog Try.f83.results.toList = some [.tmp 4] := by kernel_rfl
theorem refText_spec (b t : List UInt8) (hb : b.length ≤ 1000000) (ht : t.length ≤ 1000000) (h : AHeap) : ACalls Try.prog 83 [bysC b .ro, bysC t .ro] h (fun x h' => x = bysC (b ++ putText t) .ro ∧ h' = h) := by
  obtain ⟨c, hc1, hc2⟩ := res83
  refine ACalls.weak (ACalls.enter Try.func83 hc1 Try.ntmps83 hc2 (Nat.le_of_ble_eq_true rfl) rfl ?_)
  have hlt : (Go.Av.byteCells t).length = t.length := by simp [Go.Av.byteCells]
  have hu : (UInt64.ofNat t.length).toNat = t.length := by simp; omega
  have hc := refN_own b hb (UInt64.ofNat t.length) h
  have hpl := putN_len (n := t.length) (by omega)
  rw [hu] at hc
  repeat' (first | refine S.nilK ?_ | (refine S.op rfl ?_; first | refine R.mv rfl ?_ | refine R.len rfl ?_ | refine R.lenA rfl ?_ | refine R.lenStr rfl ?_ | refine S.convIU rfl (by omega) ?_ | refine S.convUI rfl (by omega) ?_ | refine R.convInt rfl ?_) | refine S.skip rfl ?_ | refine S.skip0 rfl ?_ | refine S.seq ?_ | refine S.region ?_ | refine S.condT rfl ?_ | refine S.condF rfl ?_ | refine RRun.skip ?_ | refine RRun.block ?_ | refine RRun.inBlock ?_ | refine RRun.exit rfl ?_)
  rw [hlt]
  refine S.op rfl (R.call rfl rfl (hc.mono ?_))
  rintro x h1 ⟨c1, rfl, g1⟩
  repeat' (first | refine S.nilK ?_ | (refine S.op rfl ?_; first | refine R.mv rfl ?_ | refine R.len rfl ?_ | refine R.lenA rfl ?_ | refine R.lenStr rfl ?_ | refine S.convIU rfl (by omega) ?_ | refine S.convUI rfl (by omega) ?_ | refine R.convInt rfl ?_) | refine S.skip rfl ?_ | refine S.skip0 rfl ?_ | refine S.seq ?_ | refine S.region ?_ | refine S.condT rfl ?_ | refine S.condF rfl ?_ | refine RRun.skip ?_ | refine RRun.block ?_ | refine RRun.inBlock ?_ | refine RRun.exit rfl ?_)
  refine S.op rfl (S.appendG (h₀ := h) (ys := Go.Av.byteCells t) rfl g1 rfl (.sl _ _) rfl (.sl _ _) (one_bytes t) (by simp [Go.Av.byteCells]; omega) (by simp [Go.Av.byteCells]; omega) (fun c3 h3 g3 _ => ?_))
  repeat' (first | refine S.nilK ?_ | (refine S.op rfl ?_; first | refine R.mv rfl ?_ | refine R.len rfl ?_ | refine R.lenA rfl ?_ | refine R.lenStr rfl ?_ | refine S.convIU rfl (by omega) ?_ | refine S.convUI rfl (by omega) ?_ | refine R.convInt rfl ?_) | refine S.skip rfl ?_ | refine S.skip0 rfl ?_ | refine S.seq ?_ | refine S.region ?_ | refine S.condT rfl ?_ | refine S.condF rfl ?_ | refine RRun.skip ?_ | refine RRun.block ?_ | refine RRun.inBlock ?_ | refine RRun.exit rfl ?_)
  apply S.ret rr83
  case hx => repeat (first | exact ResAt.nil | apply ResAt.tmp rfl | apply ResAt.cellA rfl (by (repeat' (first | assumption | exact AHeap.set_same _ _ _ | refine AHeap.get_fresh ‹_› ?_ | refine AHeap.so ?_ ?_ | exact AHeap.n1 ‹_› | exact AHeap.n2 ‹_› | exact AHeap.ne_of ‹_› ‹_› | exact AHeap.n4 ‹_› ‹_› | exact AHeap.n5 ‹_› | exact AHeap.n6 ‹_› | exact AHeap.n7 ‹_› ‹_› | exact AHeap.n8 ‹_› ‹_›)); first | done | fail) (by rfl) | apply ResAt.cell1 rfl (by (repeat' (first | assumption | exact AHeap.set_same _ _ _ | refine AHeap.get_fresh ‹_› ?_ | refine AHeap.so ?_ ?_ | exact AHeap.n1 ‹_› | exact AHeap.n2 ‹_› | exact AHeap.ne_of ‹_› ‹_› | exact AHeap.n4 ‹_› ‹_› | exact AHeap.n5 ‹_› | exact AHeap.n6 ‹_› | exact AHeap.n7 ‹_› ‹_› | exact AHeap.n8 ‹_› ‹_›)); first | done | fail) (by rfl))
  have e : Go.Av.byteCells (b ++ putN t.length) ++ Go.Av.byteCells t = Go.Av.byteCells (b ++ putText t) := by simp [Go.Av.byteCells, putText]
  rw [e]
  exact ⟨_, h, .toRo _ _ _, g3.le, rfl, rfl⟩

end Go.Proofs.Ytnmgamcmjjngcaa
