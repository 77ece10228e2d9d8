import Derived.Test.YtnmgamcmjjngcaaAvO
import Derived.Test.YtnmgamcmjjngcaaT3
set_option linter.unusedVariables false
set_option linter.unusedSimpArgs false
namespace Go.Proofs.Ytnmgamcmjjngcaa
open Go.Av

def r15l0 : RCode :=
  (.seq (.region [
    ⟨(some 56), none, .act, .bin .lss (.tmp 55) (.tmp 54)⟩])
  (.seq (.cond (.tmp 56)
   .skip
   (.exit 0))
  (.seq (.block 1
   (.seq (.region [
     ⟨(some 57), none, .act, .indexAddr 4 (.tmp 53) (.tmp 55)⟩,
     ⟨(some 58), none, .act, .load true 4 (.tmp 57)⟩,
     ⟨(some 11), none, .act, .alloc [(.int .u64 0), (.int .u64 0), (.int .i64 0), (.slice none 0 0)]⟩,
     ⟨none, none, .act, .store 4 (.tmp 11) (.tmp 58)⟩])
   (.region [
     ⟨(some 59), none, .act, .mv (.tmp 9)⟩,
     ⟨(some 60), none, .act, .load true 4 (.tmp 11)⟩,
     ⟨(some 61), none, .act, .call 53 [(.tmp 60)]⟩,
     ⟨(some 62), none, .act, .buildSl 4 [(.int .u64 0), (.int .u64 0), (.int .i64 0), (.slice none 0 0)] 1 [(0, (.tmp 61))]⟩,
     ⟨(some 63), none, .act, .append 4 48 [(.int .u64 0), (.int .u64 0), (.int .i64 0), (.slice none 0 0)] (.tmp 59) (.tmp 62)⟩,
     ⟨(some 9), none, .act, .mv (.tmp 63)⟩])))
  (.region [
    ⟨(some 64), none, .act, .bin .add (.tmp 55) (.const (.int .i64 1))⟩,
    ⟨(some 55), none, .act, .mv (.tmp 64)⟩]))))
/-- (*plenum/rlog.Log).Entries -/
def r15 : RCode :=
  (.seq (.region [
    ⟨(some 6), none, .act, .mv (.const (.slice none 0 0))⟩])
  (.seq (.seq (.region [
    ⟨(some 12), none, .act, .mv (.tmp 0)⟩,
    ⟨(some 13), none, .act, .eq false .ptr (.tmp 12) (.const (.pointer none))⟩,
    ⟨(some 14), none, .act, .mv (.tmp 13)⟩,
    ⟨(some 15), (some (14, false)), .act, .mv (.tmp 1)⟩,
    ⟨(some 16), (some (14, false)), .act, .mv (.tmp 0)⟩,
    ⟨(some 17), (some (14, false)), .act, .call 16 [(.tmp 16)]⟩,
    ⟨(some 18), (some (14, false)), .act, .bin .lss (.tmp 15) (.tmp 17)⟩,
    ⟨(some 19), none, .act, .pick (.tmp 14) (.const (.bool true)) (.tmp 18)⟩,
    ⟨(some 20), none, .act, .mv (.tmp 19)⟩,
    ⟨(some 21), (some (20, false)), .act, .mv (.tmp 1)⟩,
    ⟨(some 22), (some (20, false)), .act, .mv (.tmp 0)⟩,
    ⟨(some 23), (some (20, false)), .act, .call 50 [(.tmp 22)]⟩,
    ⟨(some 24), (some (20, false)), .act, .bin .gtr (.tmp 21) (.tmp 23)⟩,
    ⟨(some 25), none, .act, .pick (.tmp 20) (.const (.bool true)) (.tmp 24)⟩,
    ⟨(some 26), none, .act, .mv (.tmp 25)⟩,
    ⟨(some 27), (some (26, false)), .act, .mv (.tmp 2)⟩,
    ⟨(some 28), (some (26, false)), .act, .bin .lss (.tmp 27) (.const (.int .i64 1))⟩,
    ⟨(some 29), none, .act, .pick (.tmp 26) (.const (.bool true)) (.tmp 28)⟩])
  (.cond (.tmp 29)
   (.seq (.region [
     ⟨(some 6), none, .act, .mv (.const (.slice none 0 0))⟩])
   .ret)
   .skip))
  (.seq (.region [
    ⟨(some 30), none, .act, .mv (.tmp 1)⟩,
    ⟨(some 31), none, .act, .mv (.tmp 0)⟩,
    ⟨(some 32), none, .act, .call 16 [(.tmp 31)]⟩,
    ⟨(some 33), none, .act, .bin .sub (.tmp 30) (.tmp 32)⟩,
    ⟨(some 34), none, .act, .convInt .i64 (.tmp 33)⟩,
    ⟨(some 7), none, .act, .mv (.tmp 34)⟩])
  (.seq (.region [
    ⟨(some 35), none, .act, .mv (.tmp 7)⟩,
    ⟨(some 36), none, .act, .mv (.tmp 2)⟩,
    ⟨(some 37), none, .act, .mv (.tmp 0)⟩,
    ⟨(some 38), none, .act, .nilCheck (.tmp 37)⟩,
    ⟨(some 39), none, .act, .fieldAddr 4 (.tmp 38)⟩,
    ⟨(some 40), none, .act, .load false 1 (.tmp 39)⟩,
    ⟨(some 41), none, .act, .len (.tmp 40)⟩,
    ⟨(some 42), none, .act, .mv (.tmp 7)⟩,
    ⟨(some 43), none, .act, .bin .sub (.tmp 41) (.tmp 42)⟩,
    ⟨(some 44), none, .act, .minmax false [(.tmp 36), (.tmp 43)]⟩,
    ⟨(some 45), none, .act, .bin .add (.tmp 35) (.tmp 44)⟩,
    ⟨(some 8), none, .act, .mv (.tmp 45)⟩])
  (.seq (.region [
    ⟨(some 9), none, .act, .mv (.const (.slice none 0 0))⟩])
  (.seq (.seq (.region [
    ⟨(some 46), none, .act, .mv (.tmp 0)⟩,
    ⟨(some 47), none, .act, .nilCheck (.tmp 46)⟩,
    ⟨(some 48), none, .act, .fieldAddr 4 (.tmp 47)⟩,
    ⟨(some 49), none, .act, .load false 1 (.tmp 48)⟩,
    ⟨(some 50), none, .act, .mv (.tmp 7)⟩,
    ⟨(some 51), none, .act, .mv (.tmp 8)⟩,
    ⟨(some 52), none, .act, .mv (.tmp 8)⟩,
    ⟨(some 53), none, .act, .sliceSl 4 (.tmp 49) (some (.tmp 50)) (some (.tmp 51)) (some (.tmp 52))⟩,
    ⟨(some 54), none, .act, .len (.tmp 53)⟩,
    ⟨(some 55), none, .act, .mv (.const (.int .i64 0))⟩])
  (.block 0
   (.loop r15l0)))
  (.seq (.region [
    ⟨(some 65), none, .act, .mv (.tmp 9)⟩,
    ⟨(some 6), none, .act, .mv (.tmp 65)⟩])
  .ret)))))))
theorem res15 : ∃ c, Try.f15.body = some c ∧ resCode Try.prog 66 c = some r15 := ⟨_, rfl, by kernel_rfl⟩
theorem rr15 : resRes Try.prog Try.f15.results.toList = some [.tmp 6] := by kernel_rfl
theorem entries_loop (l : List Entry) (he : ∀ x ∈ l, x.data.length ≤ 140737488355328) (hl : l.length ≤ 549755813888) (h₀ : AHeap) (k : List RT) (Q : AV → AHeap → Prop)
    (hk : ∀ h c, Grow h₀ h c → RRun Try.prog Try.f15 66 k (Env.get [(9, .sl 4 (l.map Entry.cells) c)]) h Q) (m : Nat) :
    ∀ (i : Nat) (h : AHeap) (c : Cap), i + m = l.length → Grow h₀ h c →
      RRun Try.prog Try.f15 66 (.inLoop r15l0 :: .inBlock 0 :: k) (Env.get [(55, i64 i), (54, i64 l.length), (53, .sl 4 (l.map Entry.cells) .full), (9, .sl 4 ((l.take i).map Entry.cells) c)]) h Q := by
  induction m with
  | zero =>
    intro i h c hi hg
    refine RRun.inLoop ?_
    repeat' (first | refine S.nilK ?_ | (refine S.op rfl ?_; first | refine R.mv rfl ?_ | refine R.fieldAddr rfl ?_ | refine R.fieldAddrR rfl ?_ | refine R.nilCheck rfl ?_ | refine R.nilCheckR rfl ?_ | refine R.loadR rfl rfl ?_ | refine R.load (by decide) rfl (by (repeat' (first | assumption | exact AHeap.set_same _ _ _ | refine AHeap.get_fresh ‹_› ?_ | refine AHeap.so ?_ ?_ | exact AHeap.n1 ‹_› | exact AHeap.n2 ‹_› | exact AHeap.ne_of ‹_› ‹_› | exact AHeap.n4 ‹_› ‹_› | exact AHeap.n5 ‹_› | exact AHeap.n6 ‹_› | exact AHeap.n7 ‹_› ‹_› | exact AHeap.n8 ‹_› ‹_›)); first | done | fail) rfl ?_ | refine S.addI rfl rfl (by omega) ?_ | refine S.subI rfl rfl (by omega) ?_ | refine S.addU rfl rfl ?_ | refine S.subU rfl rfl ?_ | refine S.addUc rfl (by decide) ?_ | refine S.subUc rfl (by decide) ?_ | refine R.pickT rfl rfl ?_ | refine R.pickF rfl rfl ?_ | refine R.len rfl ?_ | refine R.lenA rfl ?_ | refine R.lenStr rfl ?_ | refine S.convIU rfl (by omega) ?_ | refine S.convUI rfl (by omega) ?_ | refine R.convInt rfl ?_ | refine R.eqPtrNil rfl rfl ?_ | refine R.alloc rfl (fun b hb => ?_) | refine R.buildSl rfl rfl rfl (by decide) ?_ | refine R.minmax rfl ?_ | ((first | refine S.lss rfl rfl ?_ ?_ | refine S.gtr rfl rfl ?_ ?_ | refine S.eqInt rfl rfl ?_ ?_) <;> intro hlt <;> try (exfalso; omega))) | (refine S.op0 rfl ?_; first | refine S.storeS rfl rfl rfl (by rfl) rfl (by first | decide | exact Nat.le_refl _ | exact Nat.le_of_ble_eq_true rfl) ?_ | refine S.store rfl rfl (by (repeat' (first | assumption | exact AHeap.set_same _ _ _ | refine AHeap.get_fresh ‹_› ?_ | refine AHeap.so ?_ ?_ | exact AHeap.n1 ‹_› | exact AHeap.n2 ‹_› | exact AHeap.ne_of ‹_› ‹_› | exact AHeap.n4 ‹_› ‹_› | exact AHeap.n5 ‹_› | exact AHeap.n6 ‹_› | exact AHeap.n7 ‹_› ‹_› | exact AHeap.n8 ‹_› ‹_›)); first | done | fail) rfl rfl rfl (by rfl) rfl ?_) | refine S.skip rfl ?_ | refine S.skip0 rfl ?_ | refine S.seq ?_ | refine S.region ?_ | refine S.condT rfl ?_ | refine S.condF rfl ?_ | refine RRun.skip ?_ | refine RRun.block ?_ | refine RRun.inBlock ?_ | refine RRun.exit rfl ?_)
    rw [show l.take i = l from List.take_of_length_le (by omega)]
    exact S.keep [9] rfl (hk h c hg)
  | succ m ih =>
    intro i h c hi hg
    have hie : i < l.length := by omega
    have h1 : (l.map Entry.cells)[((i : Nat) : Int).toNat]? = some l[i].cells := by simp [hie]
    have hown := own_spec l[i] (he _ (List.getElem_mem hie))
    have hlen0 : (l.map Entry.cells).length = l.length := by simp
    have hlen : ((l.take i).map Entry.cells).length = i := by simp; omega
    refine RRun.inLoop ?_
    repeat' (first | refine S.nilK ?_ | (refine S.op rfl ?_; first | refine R.indexAddr rfl rfl (by omega) h1 ?_ | refine R.callQ (by decide) rfl (hown _) ?_ | refine R.mv rfl ?_ | refine R.fieldAddr rfl ?_ | refine R.fieldAddrR rfl ?_ | refine R.nilCheck rfl ?_ | refine R.nilCheckR rfl ?_ | refine R.loadR rfl rfl ?_ | refine R.load (by decide) rfl (by (repeat' (first | assumption | exact AHeap.set_same _ _ _ | refine AHeap.get_fresh ‹_› ?_ | refine AHeap.so ?_ ?_ | exact AHeap.n1 ‹_› | exact AHeap.n2 ‹_› | exact AHeap.ne_of ‹_› ‹_› | exact AHeap.n4 ‹_› ‹_› | exact AHeap.n5 ‹_› | exact AHeap.n6 ‹_› | exact AHeap.n7 ‹_› ‹_› | exact AHeap.n8 ‹_› ‹_›)); first | done | fail) rfl ?_ | refine S.addI rfl rfl (by omega) ?_ | refine S.subI rfl rfl (by omega) ?_ | refine S.addU rfl rfl ?_ | refine S.subU rfl rfl ?_ | refine S.addUc rfl (by decide) ?_ | refine S.subUc rfl (by decide) ?_ | refine R.pickT rfl rfl ?_ | refine R.pickF rfl rfl ?_ | refine R.len rfl ?_ | refine R.lenA rfl ?_ | refine R.lenStr rfl ?_ | refine S.convIU rfl (by omega) ?_ | refine S.convUI rfl (by omega) ?_ | refine R.convInt rfl ?_ | refine R.eqPtrNil rfl rfl ?_ | refine R.alloc rfl (fun b hb => ?_) | refine R.buildSl rfl rfl rfl (by decide) ?_ | refine R.minmax rfl ?_ | ((first | refine S.lss rfl rfl ?_ ?_ | refine S.gtr rfl rfl ?_ ?_ | refine S.eqInt rfl rfl ?_ ?_) <;> intro hlt <;> try (exfalso; omega))) | (refine S.op0 rfl ?_; first | refine S.storeS rfl rfl rfl (by rfl) rfl (by first | decide | exact Nat.le_refl _ | exact Nat.le_of_ble_eq_true rfl) ?_ | refine S.store rfl rfl (by (repeat' (first | assumption | exact AHeap.set_same _ _ _ | refine AHeap.get_fresh ‹_› ?_ | refine AHeap.so ?_ ?_ | exact AHeap.n1 ‹_› | exact AHeap.n2 ‹_› | exact AHeap.ne_of ‹_› ‹_› | exact AHeap.n4 ‹_› ‹_› | exact AHeap.n5 ‹_› | exact AHeap.n6 ‹_› | exact AHeap.n7 ‹_› ‹_› | exact AHeap.n8 ‹_› ‹_›)); first | done | fail) rfl rfl rfl (by rfl) rfl ?_) | refine S.skip rfl ?_ | refine S.skip0 rfl ?_ | refine S.seq ?_ | refine S.region ?_ | refine S.condT rfl ?_ | refine S.condF rfl ?_ | refine RRun.skip ?_ | refine RRun.block ?_ | refine RRun.inBlock ?_ | refine RRun.exit rfl ?_)
    refine S.op rfl (S.appendG rfl ((hg.base _ (by assumption)).setBox _ (AHeap.set_same _ _ _) (hg.le.none (by assumption))) rfl (.sl _ _) rfl (.sl [l[i].cells] _) (Entry.one _) ?_ ?_ (fun c' h' hg' hbox => ?_))
    · rw [hlen]; simp; omega
    · rw [hlen]; simp; omega
    repeat' (first | refine S.nilK ?_ | (refine S.op rfl ?_; first | refine R.mv rfl ?_ | refine R.fieldAddr rfl ?_ | refine R.fieldAddrR rfl ?_ | refine R.nilCheck rfl ?_ | refine R.nilCheckR rfl ?_ | refine R.loadR rfl rfl ?_ | refine R.load (by decide) rfl (by (repeat' (first | assumption | exact AHeap.set_same _ _ _ | refine AHeap.get_fresh ‹_› ?_ | refine AHeap.so ?_ ?_ | exact AHeap.n1 ‹_› | exact AHeap.n2 ‹_› | exact AHeap.ne_of ‹_› ‹_› | exact AHeap.n4 ‹_› ‹_› | exact AHeap.n5 ‹_› | exact AHeap.n6 ‹_› | exact AHeap.n7 ‹_› ‹_› | exact AHeap.n8 ‹_› ‹_›)); first | done | fail) rfl ?_ | refine S.addI rfl rfl (by omega) ?_ | refine S.subI rfl rfl (by omega) ?_ | refine S.addU rfl rfl ?_ | refine S.subU rfl rfl ?_ | refine S.addUc rfl (by decide) ?_ | refine S.subUc rfl (by decide) ?_ | refine R.pickT rfl rfl ?_ | refine R.pickF rfl rfl ?_ | refine R.len rfl ?_ | refine R.lenA rfl ?_ | refine R.lenStr rfl ?_ | refine S.convIU rfl (by omega) ?_ | refine S.convUI rfl (by omega) ?_ | refine R.convInt rfl ?_ | refine R.eqPtrNil rfl rfl ?_ | refine R.alloc rfl (fun b hb => ?_) | refine R.buildSl rfl rfl rfl (by decide) ?_ | refine R.minmax rfl ?_ | ((first | refine S.lss rfl rfl ?_ ?_ | refine S.gtr rfl rfl ?_ ?_ | refine S.eqInt rfl rfl ?_ ?_) <;> intro hlt <;> try (exfalso; omega))) | (refine S.op0 rfl ?_; first | refine S.storeS rfl rfl rfl (by rfl) rfl (by first | decide | exact Nat.le_refl _ | exact Nat.le_of_ble_eq_true rfl) ?_ | refine S.store rfl rfl (by (repeat' (first | assumption | exact AHeap.set_same _ _ _ | refine AHeap.get_fresh ‹_› ?_ | refine AHeap.so ?_ ?_ | exact AHeap.n1 ‹_› | exact AHeap.n2 ‹_› | exact AHeap.ne_of ‹_› ‹_› | exact AHeap.n4 ‹_› ‹_› | exact AHeap.n5 ‹_› | exact AHeap.n6 ‹_› | exact AHeap.n7 ‹_› ‹_› | exact AHeap.n8 ‹_› ‹_›)); first | done | fail) rfl rfl rfl (by rfl) rfl ?_) | refine S.skip rfl ?_ | refine S.skip0 rfl ?_ | refine S.seq ?_ | refine S.region ?_ | refine S.condT rfl ?_ | refine S.condF rfl ?_ | refine RRun.skip ?_ | refine RRun.block ?_ | refine RRun.inBlock ?_ | refine RRun.exit rfl ?_)
    rw [show (l.take i).map Entry.cells ++ [l[i].cells] = (l.take (i + 1)).map Entry.cells from take_succ_map [] l i hie, show ((i : Int) + 1) = ((i + 1 : Nat) : Int) by omega]
    exact S.keep [55, 54, 53, 9] rfl (ih (i + 1) _ c' (by omega) hg')

/-- What Entries answers. -/
def Log.at' (L : Log) (i : UInt64) (n : Int) : List Entry :=
  if L.s.index + 1 ≤ i ∧ i ≤ L.s.index + UInt64.ofNat L.l.length ∧ 1 ≤ n then (L.l.drop (i - (L.s.index + 1)).toNat).take n.toNat else []

theorem place_lt {a x : UInt64} {n : Nat} (h3 : a.toNat ≤ 9223372036854775807) (hn : n ≤ 549755813888) (hA : a + 1 ≤ x) (hB : x ≤ a + UInt64.ofNat n) : (x - (a + 1)).toNat < n := by
  have h1 := UInt64.le_iff_toNat_le.1 hA
  have h2 := UInt64.le_iff_toNat_le.1 hB
  have h5 : (UInt64.ofNat n).toNat = n := UInt64.toNat_ofNat_of_lt' (by simp only [UInt64.size]; omega)
  have hx := x.toNat_lt
  simp only [UInt64.toNat_add, UInt64.toNat_sub, UInt64.toNat_ofNat, h5] at h1 h2 ⊢
  simp at h1 h2 ⊢
  omega

theorem entries_spec (L : Log) (he : ∀ x ∈ L.l, x.data.length ≤ 140737488355328) (hi : L.s.index.toNat ≤ 9223372036854775807) (hl : L.l.length ≤ 549755813888) (i : UInt64) (n : Int) (hn : n ≤ 9223372036854775807) (p : Nat) (h : AHeap) (hp : h p = some (.box L.cells)) :
    ACalls Try.prog 15 [ptr p, u64 i, i64 n] h (fun x h' => x = entries (L.at' i n) ∧ h' = h) := by
  have hlen : (L.l.map Entry.cells).length = L.l.length := by simp
  have hfirst := first_spec L p h hp
  have hlast := last_spec L (by omega) p h hp
  obtain ⟨c, hc1, hc2⟩ := res15
  refine ACalls.weak (ACalls.enter Try.func15 hc1 Try.ntmps15 hc2 (Nat.le_of_ble_eq_true rfl) rfl ?_)
  by_cases hc : L.s.index + 1 ≤ i ∧ i ≤ L.s.index + UInt64.ofNat L.l.length ∧ 1 ≤ n
  · obtain ⟨hA, hB, hC⟩ := hc
    have hlt' := place_lt hi hl hA hB
    have hA' := UInt64.le_iff_toNat_le.1 hA
    have hB' := UInt64.le_iff_toNat_le.1 hB
    have hmin : minInt (List.map (fun x => x.2) [(IntKind.i64, (L.l.length : Int) - (i - (L.s.index + 1)).toNat)]) n = if (L.l.length : Int) - (i - (L.s.index + 1)).toNat < n then (L.l.length : Int) - (i - (L.s.index + 1)).toNat else n := by
      simp only [List.map, minInt]
    rw [show (L.l.length : Int) = ((L.l.map Entry.cells).length : Int) by rw [hlen]] at hmin
    generalize hM : (if ((L.l.map Entry.cells).length : Int) - (i - (L.s.index + 1)).toNat < n then ((L.l.map Entry.cells).length : Int) - (i - (L.s.index + 1)).toNat else n) = M at hmin
    have hM1 : 1 ≤ M ∧ M ≤ L.l.length - (i - (L.s.index + 1)).toNat ∧ M ≤ n := by rw [← hM]; split <;> omega
    have hres : L.at' i n = (L.l.drop (i - (L.s.index + 1)).toNat).take M.toNat := by
      rw [Log.at', if_pos ⟨hA, hB, hC⟩, ← hM]
      split
      · rw [List.take_of_length_le (by simp <;> omega), List.take_of_length_le (by simp <;> omega)]
      · rfl
    have hn2 : 1 ≤ n := hC
    repeat' (first | refine S.nilK ?_ | (refine S.op rfl ?_; first | refine R.callQ (by decide) rfl hfirst ?_ | refine R.callQ (by decide) rfl hlast ?_ | refine S.minIs rfl hmin ?_ | refine S.sliceLHM rfl rfl rfl rfl (by omega) (by omega) (by omega) (by decide) ?_ | refine R.mv rfl ?_ | refine R.fieldAddr rfl ?_ | refine R.fieldAddrR rfl ?_ | refine R.nilCheck rfl ?_ | refine R.nilCheckR rfl ?_ | refine R.loadR rfl rfl ?_ | refine R.load (by decide) rfl (by (repeat' (first | assumption | exact AHeap.set_same _ _ _ | refine AHeap.get_fresh ‹_› ?_ | refine AHeap.so ?_ ?_ | exact AHeap.n1 ‹_› | exact AHeap.n2 ‹_› | exact AHeap.ne_of ‹_› ‹_› | exact AHeap.n4 ‹_› ‹_› | exact AHeap.n5 ‹_› | exact AHeap.n6 ‹_› | exact AHeap.n7 ‹_› ‹_› | exact AHeap.n8 ‹_› ‹_›)); first | done | fail) rfl ?_ | refine S.addI rfl rfl (by omega) ?_ | refine S.subI rfl rfl (by omega) ?_ | refine S.addU rfl rfl ?_ | refine S.subU rfl rfl ?_ | refine S.addUc rfl (by decide) ?_ | refine S.subUc rfl (by decide) ?_ | refine R.pickT rfl rfl ?_ | refine R.pickF rfl rfl ?_ | refine R.len rfl ?_ | refine R.lenA rfl ?_ | refine R.lenStr rfl ?_ | refine S.convIU rfl (by omega) ?_ | refine S.convUI rfl (by omega) ?_ | refine R.convInt rfl ?_ | refine R.eqPtrNil rfl rfl ?_ | refine R.alloc rfl (fun b hb => ?_) | refine R.buildSl rfl rfl rfl (by decide) ?_ | refine R.minmax rfl ?_ | ((first | refine S.lss rfl rfl ?_ ?_ | refine S.gtr rfl rfl ?_ ?_ | refine S.eqInt rfl rfl ?_ ?_) <;> intro hlt <;> try (exfalso; omega))) | (refine S.op0 rfl ?_; first | refine S.storeS rfl rfl rfl (by rfl) rfl (by first | decide | exact Nat.le_refl _ | exact Nat.le_of_ble_eq_true rfl) ?_ | refine S.store rfl rfl (by (repeat' (first | assumption | exact AHeap.set_same _ _ _ | refine AHeap.get_fresh ‹_› ?_ | refine AHeap.so ?_ ?_ | exact AHeap.n1 ‹_› | exact AHeap.n2 ‹_› | exact AHeap.ne_of ‹_› ‹_› | exact AHeap.n4 ‹_› ‹_› | exact AHeap.n5 ‹_› | exact AHeap.n6 ‹_› | exact AHeap.n7 ‹_› ‹_› | exact AHeap.n8 ‹_› ‹_›)); first | done | fail) rfl rfl rfl (by rfl) rfl ?_) | refine S.skip rfl ?_ | refine S.skip0 rfl ?_ | refine S.seq ?_ | refine S.region ?_ | refine S.condT rfl ?_ | refine S.condF rfl ?_ | refine RRun.skip ?_ | refine RRun.block ?_ | refine RRun.inBlock ?_ | refine RRun.exit rfl ?_)
    have hv : List.take (((i - (L.s.index + 1)).toNat + M : Int).toNat - ((i - (L.s.index + 1)).toNat : Int).toNat) (List.drop ((i - (L.s.index + 1)).toNat : Int).toNat (L.l.map Entry.cells)) = (L.at' i n).map Entry.cells := by
      rw [hres, List.map_take, List.map_drop, show ((i - (L.s.index + 1)).toNat + M : Int).toNat - ((i - (L.s.index + 1)).toNat : Int).toNat = M.toNat by omega, Int.toNat_natCast]
    have hle : (L.at' i n).length ≤ L.l.length := by rw [hres, List.length_take, List.length_drop]; omega
    have hmem : ∀ x ∈ L.at' i n, x.data.length ≤ 140737488355328 := by
      rw [hres]; intro x hx
      exact he x (List.mem_of_mem_drop (List.mem_of_mem_take hx))
    rw [hv, List.length_map]
    refine RRun.loopIn (S.keep [55, 54, 53, 9] rfl ?_)
    refine RRun.envs (l' := [(55, i64 (0 : Nat)), (54, i64 (L.at' i n).length), (53, .sl 4 ((L.at' i n).map Entry.cells) .full), (9, .sl 4 (((L.at' i n).take 0).map Entry.cells) .full)]) (.cons _ (.refl _) (.cons _ (.refl _) (.cons _ (.refl _) (.cons _ (.nilSl 4 trivial) .nil)))) ?_
    refine entries_loop (L.at' i n) hmem (by omega) h _ _ ?_ (L.at' i n).length 0 h .full (by omega) (.start h)
    intro h' c' hg
    repeat' (first | refine S.nilK ?_ | (refine S.op rfl ?_; first | refine R.mv rfl ?_ | refine R.fieldAddr rfl ?_ | refine R.fieldAddrR rfl ?_ | refine R.nilCheck rfl ?_ | refine R.nilCheckR rfl ?_ | refine R.loadR rfl rfl ?_ | refine R.load (by decide) rfl (by (repeat' (first | assumption | exact AHeap.set_same _ _ _ | refine AHeap.get_fresh ‹_› ?_ | refine AHeap.so ?_ ?_ | exact AHeap.n1 ‹_› | exact AHeap.n2 ‹_› | exact AHeap.ne_of ‹_› ‹_› | exact AHeap.n4 ‹_› ‹_› | exact AHeap.n5 ‹_› | exact AHeap.n6 ‹_› | exact AHeap.n7 ‹_› ‹_› | exact AHeap.n8 ‹_› ‹_›)); first | done | fail) rfl ?_ | refine S.addI rfl rfl (by omega) ?_ | refine S.subI rfl rfl (by omega) ?_ | refine S.addU rfl rfl ?_ | refine S.subU rfl rfl ?_ | refine S.addUc rfl (by decide) ?_ | refine S.subUc rfl (by decide) ?_ | refine R.pickT rfl rfl ?_ | refine R.pickF rfl rfl ?_ | refine R.len rfl ?_ | refine R.lenA rfl ?_ | refine R.lenStr rfl ?_ | refine S.convIU rfl (by omega) ?_ | refine S.convUI rfl (by omega) ?_ | refine R.convInt rfl ?_ | refine R.eqPtrNil rfl rfl ?_ | refine R.alloc rfl (fun b hb => ?_) | refine R.buildSl rfl rfl rfl (by decide) ?_ | refine R.minmax rfl ?_ | ((first | refine S.lss rfl rfl ?_ ?_ | refine S.gtr rfl rfl ?_ ?_ | refine S.eqInt rfl rfl ?_ ?_) <;> intro hlt <;> try (exfalso; omega))) | (refine S.op0 rfl ?_; first | refine S.storeS rfl rfl rfl (by rfl) rfl (by first | decide | exact Nat.le_refl _ | exact Nat.le_of_ble_eq_true rfl) ?_ | refine S.store rfl rfl (by (repeat' (first | assumption | exact AHeap.set_same _ _ _ | refine AHeap.get_fresh ‹_› ?_ | refine AHeap.so ?_ ?_ | exact AHeap.n1 ‹_› | exact AHeap.n2 ‹_› | exact AHeap.ne_of ‹_› ‹_› | exact AHeap.n4 ‹_› ‹_› | exact AHeap.n5 ‹_› | exact AHeap.n6 ‹_› | exact AHeap.n7 ‹_› ‹_› | exact AHeap.n8 ‹_› ‹_›)); first | done | fail) rfl rfl rfl (by rfl) rfl ?_) | refine S.skip rfl ?_ | refine S.skip0 rfl ?_ | refine S.seq ?_ | refine S.region ?_ | refine S.condT rfl ?_ | refine S.condF rfl ?_ | refine RRun.skip ?_ | refine RRun.block ?_ | refine RRun.inBlock ?_ | refine RRun.exit rfl ?_)
    apply S.ret rr15
    case hx => repeat (first | exact ResAt.nil | apply ResAt.tmp rfl | apply ResAt.cellA rfl (by (repeat' (first | assumption | exact AHeap.set_same _ _ _ | refine AHeap.get_fresh ‹_› ?_ | refine AHeap.so ?_ ?_ | exact AHeap.n1 ‹_› | exact AHeap.n2 ‹_› | exact AHeap.ne_of ‹_› ‹_› | exact AHeap.n4 ‹_› ‹_› | exact AHeap.n5 ‹_› | exact AHeap.n6 ‹_› | exact AHeap.n7 ‹_› ‹_› | exact AHeap.n8 ‹_› ‹_›)); first | done | fail) (by rfl) | apply ResAt.cell1 rfl (by (repeat' (first | assumption | exact AHeap.set_same _ _ _ | refine AHeap.get_fresh ‹_› ?_ | refine AHeap.so ?_ ?_ | exact AHeap.n1 ‹_› | exact AHeap.n2 ‹_› | exact AHeap.ne_of ‹_› ‹_› | exact AHeap.n4 ‹_› ‹_› | exact AHeap.n5 ‹_› | exact AHeap.n6 ‹_› | exact AHeap.n7 ‹_› ‹_› | exact AHeap.n8 ‹_› ‹_›)); first | done | fail) (by rfl))
    exact ⟨_, _, .toRo _ _ _, hg.le, rfl, rfl⟩
  · have hc' : ¬ ((L.s.index + 1).toNat ≤ i.toNat ∧ i.toNat ≤ (L.s.index + UInt64.ofNat L.l.length).toNat ∧ 1 ≤ n) := fun ⟨a, b, c⟩ => hc ⟨UInt64.le_iff_toNat_le.2 a, UInt64.le_iff_toNat_le.2 b, c⟩
    repeat' (first | refine S.nilK ?_ | (refine S.op rfl ?_; first | refine R.callQ (by decide) rfl hfirst ?_ | refine R.callQ (by decide) rfl hlast ?_ | refine R.mv rfl ?_ | refine R.fieldAddr rfl ?_ | refine R.fieldAddrR rfl ?_ | refine R.nilCheck rfl ?_ | refine R.nilCheckR rfl ?_ | refine R.loadR rfl rfl ?_ | refine R.load (by decide) rfl (by (repeat' (first | assumption | exact AHeap.set_same _ _ _ | refine AHeap.get_fresh ‹_› ?_ | refine AHeap.so ?_ ?_ | exact AHeap.n1 ‹_› | exact AHeap.n2 ‹_› | exact AHeap.ne_of ‹_› ‹_› | exact AHeap.n4 ‹_› ‹_› | exact AHeap.n5 ‹_› | exact AHeap.n6 ‹_› | exact AHeap.n7 ‹_› ‹_› | exact AHeap.n8 ‹_› ‹_›)); first | done | fail) rfl ?_ | refine S.addI rfl rfl (by omega) ?_ | refine S.subI rfl rfl (by omega) ?_ | refine S.addU rfl rfl ?_ | refine S.subU rfl rfl ?_ | refine S.addUc rfl (by decide) ?_ | refine S.subUc rfl (by decide) ?_ | refine R.pickT rfl rfl ?_ | refine R.pickF rfl rfl ?_ | refine R.len rfl ?_ | refine R.lenA rfl ?_ | refine R.lenStr rfl ?_ | refine S.convIU rfl (by omega) ?_ | refine S.convUI rfl (by omega) ?_ | refine R.convInt rfl ?_ | refine R.eqPtrNil rfl rfl ?_ | refine R.alloc rfl (fun b hb => ?_) | refine R.buildSl rfl rfl rfl (by decide) ?_ | refine R.minmax rfl ?_ | ((first | refine S.lss rfl rfl ?_ ?_ | refine S.gtr rfl rfl ?_ ?_ | refine S.eqInt rfl rfl ?_ ?_) <;> intro hlt <;> try (exfalso; omega))) | (refine S.op0 rfl ?_; first | refine S.storeS rfl rfl rfl (by rfl) rfl (by first | decide | exact Nat.le_refl _ | exact Nat.le_of_ble_eq_true rfl) ?_ | refine S.store rfl rfl (by (repeat' (first | assumption | exact AHeap.set_same _ _ _ | refine AHeap.get_fresh ‹_› ?_ | refine AHeap.so ?_ ?_ | exact AHeap.n1 ‹_› | exact AHeap.n2 ‹_› | exact AHeap.ne_of ‹_› ‹_› | exact AHeap.n4 ‹_› ‹_› | exact AHeap.n5 ‹_› | exact AHeap.n6 ‹_› | exact AHeap.n7 ‹_› ‹_› | exact AHeap.n8 ‹_› ‹_›)); first | done | fail) rfl rfl rfl (by rfl) rfl ?_) | refine S.skip rfl ?_ | refine S.skip0 rfl ?_ | refine S.seq ?_ | refine S.region ?_ | refine S.condT rfl ?_ | refine S.condF rfl ?_ | refine RRun.skip ?_ | refine RRun.block ?_ | refine RRun.inBlock ?_ | refine RRun.exit rfl ?_)
    all_goals
      apply S.ret rr15
      case hx => repeat (first | exact ResAt.nil | apply ResAt.tmp rfl | apply ResAt.cellA rfl (by (repeat' (first | assumption | exact AHeap.set_same _ _ _ | refine AHeap.get_fresh ‹_› ?_ | refine AHeap.so ?_ ?_ | exact AHeap.n1 ‹_› | exact AHeap.n2 ‹_› | exact AHeap.ne_of ‹_› ‹_› | exact AHeap.n4 ‹_› ‹_› | exact AHeap.n5 ‹_› | exact AHeap.n6 ‹_› | exact AHeap.n7 ‹_› ‹_› | exact AHeap.n8 ‹_› ‹_›)); first | done | fail) (by rfl) | apply ResAt.cell1 rfl (by (repeat' (first | assumption | exact AHeap.set_same _ _ _ | refine AHeap.get_fresh ‹_› ?_ | refine AHeap.so ?_ ?_ | exact AHeap.n1 ‹_› | exact AHeap.n2 ‹_› | exact AHeap.ne_of ‹_› ‹_› | exact AHeap.n4 ‹_› ‹_› | exact AHeap.n5 ‹_› | exact AHeap.n6 ‹_› | exact AHeap.n7 ‹_› ‹_› | exact AHeap.n8 ‹_› ‹_›)); first | done | fail) (by rfl))
      refine ⟨_, _, .nilSl 4 (c := .ro) trivial, (by repeat (first | exact AHeap.le.refl _ | refine AHeap.le.set ?_ _ (by (repeat' (first | assumption | exact AHeap.z1 ‹_› | exact AHeap.z2 ‹_› | exact AHeap.z3 ‹_› | refine AHeap.so ?_ ?_ | exact AHeap.n1 ‹_› | exact AHeap.n2 ‹_› | exact AHeap.ne_of ‹_› ‹_› | exact AHeap.n4 ‹_› ‹_› | exact AHeap.n5 ‹_› | exact AHeap.n6 ‹_› | exact AHeap.n7 ‹_› ‹_› | exact AHeap.n8 ‹_› ‹_›)); first | done | fail) | refine AHeap.le.both ?_ _ _)), ?_, rfl⟩
      rw [Log.at', if_neg hc]; rfl

def r17l0 : RCode :=
  (.seq (.region [
    ⟨(some 14), none, .act, .bin .lss (.tmp 13) (.tmp 12)⟩])
  (.seq (.cond (.tmp 14)
   .skip
   (.exit 0))
  (.seq (.block 1
   (.seq (.region [
     ⟨(some 15), none, .act, .mv (.tmp 13)⟩,
     ⟨(some 5), none, .act, .mv (.tmp 15)⟩])
   (.seq (.region [
     ⟨(some 16), none, .pure, .mv (.tmp 0)⟩,
     ⟨(some 17), none, .pure, .mv (.tmp 5)⟩,
     ⟨(some 18), none, .pure, .indexAddr 4 (.tmp 16) (.tmp 17)⟩,
     ⟨(some 19), none, .pure, .fieldAddr 0 (.tmp 18)⟩,
     ⟨(some 20), none, .read, .load false 1 (.tmp 19)⟩,
     ⟨(some 21), none, .pure, .mv (.tmp 1)⟩,
     ⟨(some 22), none, .pure, .mv (.tmp 5)⟩,
     ⟨(some 23), none, .pure, .indexAddr 4 (.tmp 21) (.tmp 22)⟩,
     ⟨(some 24), none, .pure, .fieldAddr 0 (.tmp 23)⟩,
     ⟨(some 25), none, .read, .load false 1 (.tmp 24)⟩,
     ⟨(some 26), none, .pure, .eq true .int (.tmp 20) (.tmp 25)⟩,
     ⟨(some 27), none, .pure, .mv (.tmp 26)⟩,
     ⟨(some 28), (some (27, false)), .pure, .mv (.tmp 0)⟩,
     ⟨(some 29), (some (27, false)), .pure, .mv (.tmp 5)⟩,
     ⟨(some 30), (some (27, false)), .pure, .indexAddr 4 (.tmp 28) (.tmp 29)⟩,
     ⟨(some 31), (some (27, false)), .pure, .fieldAddr 1 (.tmp 30)⟩,
     ⟨(some 32), (some (27, false)), .read, .load false 1 (.tmp 31)⟩,
     ⟨(some 33), (some (27, false)), .pure, .mv (.tmp 1)⟩,
     ⟨(some 34), (some (27, false)), .pure, .mv (.tmp 5)⟩,
     ⟨(some 35), (some (27, false)), .pure, .indexAddr 4 (.tmp 33) (.tmp 34)⟩,
     ⟨(some 36), (some (27, false)), .pure, .fieldAddr 1 (.tmp 35)⟩,
     ⟨(some 37), (some (27, false)), .read, .load false 1 (.tmp 36)⟩,
     ⟨(some 38), (some (27, false)), .pure, .eq true .int (.tmp 32) (.tmp 37)⟩,
     ⟨(some 39), none, .pure, .pick (.tmp 27) (.const (.bool true)) (.tmp 38)⟩,
     ⟨(some 40), none, .pure, .mv (.tmp 39)⟩,
     ⟨(some 41), (some (40, false)), .pure, .mv (.tmp 0)⟩,
     ⟨(some 42), (some (40, false)), .pure, .mv (.tmp 5)⟩,
     ⟨(some 43), (some (40, false)), .pure, .indexAddr 4 (.tmp 41) (.tmp 42)⟩,
     ⟨(some 44), (some (40, false)), .pure, .fieldAddr 2 (.tmp 43)⟩,
     ⟨(some 45), (some (40, false)), .read, .load false 1 (.tmp 44)⟩,
     ⟨(some 46), (some (40, false)), .pure, .mv (.tmp 1)⟩,
     ⟨(some 47), (some (40, false)), .pure, .mv (.tmp 5)⟩,
     ⟨(some 48), (some (40, false)), .pure, .indexAddr 4 (.tmp 46) (.tmp 47)⟩,
     ⟨(some 49), (some (40, false)), .pure, .fieldAddr 2 (.tmp 48)⟩,
     ⟨(some 50), (some (40, false)), .read, .load false 1 (.tmp 49)⟩,
     ⟨(some 51), (some (40, false)), .pure, .eq true .int (.tmp 45) (.tmp 50)⟩,
     ⟨(some 52), none, .pure, .pick (.tmp 40) (.const (.bool true)) (.tmp 51)⟩,
     ⟨(some 53), none, .pure, .mv (.tmp 52)⟩,
     ⟨(some 54), (some (53, false)), .pure, .mv (.tmp 0)⟩,
     ⟨(some 55), (some (53, false)), .pure, .mv (.tmp 5)⟩,
     ⟨(some 56), (some (53, false)), .pure, .indexAddr 4 (.tmp 54) (.tmp 55)⟩,
     ⟨(some 57), (some (53, false)), .pure, .fieldAddr 3 (.tmp 56)⟩,
     ⟨(some 58), (some (53, false)), .read, .load false 1 (.tmp 57)⟩,
     ⟨(some 59), (some (53, false)), .pure, .toStr (.tmp 58)⟩,
     ⟨(some 60), (some (53, false)), .pure, .mv (.tmp 1)⟩,
     ⟨(some 61), (some (53, false)), .pure, .mv (.tmp 5)⟩,
     ⟨(some 62), (some (53, false)), .pure, .indexAddr 4 (.tmp 60) (.tmp 61)⟩,
     ⟨(some 63), (some (53, false)), .pure, .fieldAddr 3 (.tmp 62)⟩,
     ⟨(some 64), (some (53, false)), .read, .load false 1 (.tmp 63)⟩,
     ⟨(some 65), (some (53, false)), .pure, .toStr (.tmp 64)⟩,
     ⟨(some 66), (some (53, false)), .pure, .eq true .str (.tmp 59) (.tmp 65)⟩,
     ⟨(some 67), none, .pure, .pick (.tmp 53) (.const (.bool true)) (.tmp 66)⟩])
   (.cond (.tmp 67)
    (.seq (.region [
      ⟨(some 4), none, .act, .mv (.const (.bool false))⟩])
    .ret)
    .skip))))
  (.region [
    ⟨(some 68), none, .act, .bin .add (.tmp 13) (.const (.int .i64 1))⟩,
    ⟨(some 13), none, .act, .mv (.tmp 68)⟩]))))
/-- plenum/plenumref06.SameEntries -/
def r17 : RCode :=
  (.seq (.region [
    ⟨(some 4), none, .act, .mv (.const (.bool false))⟩])
  (.seq (.seq (.region [
    ⟨(some 6), none, .act, .mv (.tmp 0)⟩,
    ⟨(some 7), none, .act, .len (.tmp 6)⟩,
    ⟨(some 8), none, .act, .mv (.tmp 1)⟩,
    ⟨(some 9), none, .act, .len (.tmp 8)⟩,
    ⟨(some 10), none, .act, .eq true .int (.tmp 7) (.tmp 9)⟩])
  (.cond (.tmp 10)
   (.seq (.region [
     ⟨(some 4), none, .act, .mv (.const (.bool false))⟩])
   .ret)
   .skip))
  (.seq (.seq (.region [
    ⟨(some 11), none, .act, .mv (.tmp 0)⟩,
    ⟨(some 12), none, .act, .len (.tmp 11)⟩,
    ⟨(some 13), none, .act, .mv (.const (.int .i64 0))⟩])
  (.block 0
   (.loop r17l0)))
  (.seq (.region [
    ⟨(some 4), none, .act, .mv (.const (.bool true))⟩])
  .ret))))
theorem res17 : ∃ c, Try.f17.body = some c ∧ resCode Try.prog 69 c = some r17 := ⟨_, rfl, by kernel_rfl⟩
theorem rr17 : resRes Try.prog Try.f17.results.toList = some [.tmp 4] := by kernel_rfl
theorem same_loop (l : List Entry) (hl : l.length ≤ 17592186044416) (h : AHeap) (k : List RT) (Q : AV → AHeap → Prop)
    (hk : RRun Try.prog Try.f17 69 k (Env.get []) h Q) (m : Nat) :
    ∀ (i : Nat), i + m = l.length →
      RRun Try.prog Try.f17 69 (.inLoop r17l0 :: .inBlock 0 :: k) (Env.get [(13, i64 i), (12, i64 l.length), (0, entries l), (1, entries l)]) h Q := by
  induction m with
  | zero =>
    intro i hi
    refine RRun.inLoop ?_
    repeat' (first | refine S.nilK ?_ | (refine S.op rfl ?_; first | refine R.mv rfl ?_ | refine R.fieldAddr rfl ?_ | refine R.fieldAddrR rfl ?_ | refine R.loadR rfl rfl ?_ | refine R.load (by decide) rfl (by (repeat' (first | assumption | exact AHeap.set_same _ _ _ | refine AHeap.get_fresh ‹_› ?_ | refine AHeap.so ?_ ?_ | exact AHeap.n1 ‹_› | exact AHeap.n2 ‹_› | exact AHeap.ne_of ‹_› ‹_› | exact AHeap.n4 ‹_› ‹_› | exact AHeap.n5 ‹_› | exact AHeap.n6 ‹_› | exact AHeap.n7 ‹_› ‹_› | exact AHeap.n8 ‹_› ‹_›)); first | done | fail) rfl ?_ | refine S.addI rfl rfl (by omega) ?_ | refine S.addU rfl rfl ?_ | refine S.addUc rfl (by decide) ?_ | refine R.pickT rfl rfl ?_ | refine R.pickF rfl rfl ?_ | refine R.len rfl ?_ | refine R.lenA rfl ?_ | refine R.lenStr rfl ?_ | refine R.eqPtrNil rfl rfl ?_ | refine R.toStr rfl ?_ | ((first | refine S.lss rfl rfl ?_ ?_ | refine S.eqInt rfl rfl ?_ ?_) <;> intro hlt <;> try (exfalso; omega))) | refine S.skip rfl ?_ | refine S.skip0 rfl ?_ | refine S.seq ?_ | refine S.region ?_ | refine S.condT rfl ?_ | refine S.condF rfl ?_ | refine RRun.skip ?_ | refine RRun.block ?_ | refine RRun.inBlock ?_ | refine RRun.exit rfl ?_)
    exact S.keep [] rfl hk
  | succ m ih =>
    intro i hi
    have hie : i < l.length := by omega
    have h1 : (l.map Entry.cells)[((i : Nat) : Int).toNat]? = some l[i].cells := by simp [hie]
    have hlen0 : (l.map Entry.cells).length = l.length := by simp
    refine RRun.inLoop ?_
    repeat' (first | refine S.nilK ?_ | (refine S.op rfl ?_; first | refine R.indexAddr rfl rfl (by omega) h1 ?_ | refine S.eqStrSame rfl rfl ?_ | refine S.eqIntSame rfl rfl ?_ | refine R.mv rfl ?_ | refine R.fieldAddr rfl ?_ | refine R.fieldAddrR rfl ?_ | refine R.loadR rfl rfl ?_ | refine R.load (by decide) rfl (by (repeat' (first | assumption | exact AHeap.set_same _ _ _ | refine AHeap.get_fresh ‹_› ?_ | refine AHeap.so ?_ ?_ | exact AHeap.n1 ‹_› | exact AHeap.n2 ‹_› | exact AHeap.ne_of ‹_› ‹_› | exact AHeap.n4 ‹_› ‹_› | exact AHeap.n5 ‹_› | exact AHeap.n6 ‹_› | exact AHeap.n7 ‹_› ‹_› | exact AHeap.n8 ‹_› ‹_›)); first | done | fail) rfl ?_ | refine S.addI rfl rfl (by omega) ?_ | refine S.addU rfl rfl ?_ | refine S.addUc rfl (by decide) ?_ | refine R.pickT rfl rfl ?_ | refine R.pickF rfl rfl ?_ | refine R.len rfl ?_ | refine R.lenA rfl ?_ | refine R.lenStr rfl ?_ | refine R.eqPtrNil rfl rfl ?_ | refine R.toStr rfl ?_ | ((first | refine S.lss rfl rfl ?_ ?_ | refine S.eqInt rfl rfl ?_ ?_) <;> intro hlt <;> try (exfalso; omega))) | refine S.skip rfl ?_ | refine S.skip0 rfl ?_ | refine S.seq ?_ | refine S.region ?_ | refine S.condT rfl ?_ | refine S.condF rfl ?_ | refine RRun.skip ?_ | refine RRun.block ?_ | refine RRun.inBlock ?_ | refine RRun.exit rfl ?_)
    rw [show ((i : Int) + 1) = ((i + 1 : Nat) : Int) by omega]
    exact S.keep [13, 12, 0, 1] rfl (ih (i + 1) (by omega))

theorem same_spec (l : List Entry) (hl : l.length ≤ 17592186044416) (h : AHeap) : ACalls Try.prog 17 [entries l, entries l] h (fun x h' => x = bl true ∧ h' = h) := by
  have hlen : (l.map Entry.cells).length = l.length := by simp
  obtain ⟨c, hc1, hc2⟩ := res17
  refine ACalls.enter Try.func17 hc1 Try.ntmps17 hc2 (Nat.le_of_ble_eq_true rfl) rfl ?_
  repeat' (first | refine S.nilK ?_ | (refine S.op rfl ?_; first | refine S.eqIntSame rfl rfl ?_ | refine R.mv rfl ?_ | refine R.fieldAddr rfl ?_ | refine R.fieldAddrR rfl ?_ | refine R.loadR rfl rfl ?_ | refine R.load (by decide) rfl (by (repeat' (first | assumption | exact AHeap.set_same _ _ _ | refine AHeap.get_fresh ‹_› ?_ | refine AHeap.so ?_ ?_ | exact AHeap.n1 ‹_› | exact AHeap.n2 ‹_› | exact AHeap.ne_of ‹_› ‹_› | exact AHeap.n4 ‹_› ‹_› | exact AHeap.n5 ‹_› | exact AHeap.n6 ‹_› | exact AHeap.n7 ‹_› ‹_› | exact AHeap.n8 ‹_› ‹_›)); first | done | fail) rfl ?_ | refine S.addI rfl rfl (by omega) ?_ | refine S.addU rfl rfl ?_ | refine S.addUc rfl (by decide) ?_ | refine R.pickT rfl rfl ?_ | refine R.pickF rfl rfl ?_ | refine R.len rfl ?_ | refine R.lenA rfl ?_ | refine R.lenStr rfl ?_ | refine R.eqPtrNil rfl rfl ?_ | refine R.toStr rfl ?_ | ((first | refine S.lss rfl rfl ?_ ?_ | refine S.eqInt rfl rfl ?_ ?_) <;> intro hlt <;> try (exfalso; omega))) | refine S.skip rfl ?_ | refine S.skip0 rfl ?_ | refine S.seq ?_ | refine S.region ?_ | refine S.condT rfl ?_ | refine S.condF rfl ?_ | refine RRun.skip ?_ | refine RRun.block ?_ | refine RRun.inBlock ?_ | refine RRun.exit rfl ?_)
  rw [hlen]
  refine RRun.loopIn (S.keep [13, 12, 0, 1] rfl ?_)
  refine same_loop l hl h _ _ ?_ l.length 0 (by omega)
  repeat' (first | refine S.nilK ?_ | (refine S.op rfl ?_; first | refine R.mv rfl ?_ | refine R.fieldAddr rfl ?_ | refine R.fieldAddrR rfl ?_ | refine R.loadR rfl rfl ?_ | refine R.load (by decide) rfl (by (repeat' (first | assumption | exact AHeap.set_same _ _ _ | refine AHeap.get_fresh ‹_› ?_ | refine AHeap.so ?_ ?_ | exact AHeap.n1 ‹_› | exact AHeap.n2 ‹_› | exact AHeap.ne_of ‹_› ‹_› | exact AHeap.n4 ‹_› ‹_› | exact AHeap.n5 ‹_› | exact AHeap.n6 ‹_› | exact AHeap.n7 ‹_› ‹_› | exact AHeap.n8 ‹_› ‹_›)); first | done | fail) rfl ?_ | refine S.addI rfl rfl (by omega) ?_ | refine S.addU rfl rfl ?_ | refine S.addUc rfl (by decide) ?_ | refine R.pickT rfl rfl ?_ | refine R.pickF rfl rfl ?_ | refine R.len rfl ?_ | refine R.lenA rfl ?_ | refine R.lenStr rfl ?_ | refine R.eqPtrNil rfl rfl ?_ | refine R.toStr rfl ?_ | ((first | refine S.lss rfl rfl ?_ ?_ | refine S.eqInt rfl rfl ?_ ?_) <;> intro hlt <;> try (exfalso; omega))) | refine S.skip rfl ?_ | refine S.skip0 rfl ?_ | refine S.seq ?_ | refine S.region ?_ | refine S.condT rfl ?_ | refine S.condF rfl ?_ | refine RRun.skip ?_ | refine RRun.block ?_ | refine RRun.inBlock ?_ | refine RRun.exit rfl ?_)
  apply S.ret rr17
  case hx => repeat (first | exact ResAt.nil | apply ResAt.tmp rfl | apply ResAt.cellA rfl (by (repeat' (first | assumption | exact AHeap.set_same _ _ _ | refine AHeap.get_fresh ‹_› ?_ | refine AHeap.so ?_ ?_ | exact AHeap.n1 ‹_› | exact AHeap.n2 ‹_› | exact AHeap.ne_of ‹_› ‹_› | exact AHeap.n4 ‹_› ‹_› | exact AHeap.n5 ‹_› | exact AHeap.n6 ‹_› | exact AHeap.n7 ‹_› ‹_› | exact AHeap.n8 ‹_› ‹_›)); first | done | fail) (by rfl) | apply ResAt.cell1 rfl (by (repeat' (first | assumption | exact AHeap.set_same _ _ _ | refine AHeap.get_fresh ‹_› ?_ | refine AHeap.so ?_ ?_ | exact AHeap.n1 ‹_› | exact AHeap.n2 ‹_› | exact AHeap.ne_of ‹_› ‹_› | exact AHeap.n4 ‹_› ‹_› | exact AHeap.n5 ‹_› | exact AHeap.n6 ‹_› | exact AHeap.n7 ‹_› ‹_› | exact AHeap.n8 ‹_› ‹_›)); first | done | fail) (by rfl))
  exact ⟨rfl, rfl⟩

end Go.Proofs.Ytnmgamcmjjngcaa
