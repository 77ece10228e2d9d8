import Derived.Test.YtnmgamcmjjngcaaAvN
import Derived.Test.YtnmgamcmjjngcaaT4
set_option linter.unusedVariables false
set_option linter.unusedSimpArgs false
namespace Go.Proofs.Ytnmgamcmjjngcaa
open Go.Av

def Snap.small (s : Snap) : Bool := decide (s.members.length ≤ 9) && decide (s.data.length ≤ 200)

/-- plenum/plenumlaw08.SmallSnap -/
def r11 : RCode :=
  (.seq (.region [
    ⟨(some 1), none, .act, .box (.tmp 0)⟩,
    ⟨(some 2), none, .act, .mv (.const (.bool false))⟩])
  (.seq (.region [
    ⟨(some 3), none, .act, .fieldAddr 2 (.tmp 1)⟩,
    ⟨(some 4), none, .act, .load false 1 (.tmp 3)⟩,
    ⟨(some 5), none, .act, .len (.tmp 4)⟩,
    ⟨(some 6), none, .act, .bin .leq (.tmp 5) (.const (.int .i64 9))⟩,
    ⟨(some 7), none, .act, .mv (.tmp 6)⟩,
    ⟨(some 8), (some (7, true)), .act, .fieldAddr 3 (.tmp 1)⟩,
    ⟨(some 9), (some (7, true)), .act, .load false 1 (.tmp 8)⟩,
    ⟨(some 10), (some (7, true)), .act, .len (.tmp 9)⟩,
    ⟨(some 11), (some (7, true)), .act, .bin .leq (.tmp 10) (.const (.int .i64 200))⟩,
    ⟨(some 12), none, .act, .pick (.tmp 7) (.tmp 11) (.const (.bool false))⟩,
    ⟨(some 2), none, .act, .mv (.tmp 12)⟩])
  .ret))
theorem res11 : ∃ c, Try.f11.body = some c ∧ resCode Try.prog 13 c = some r11 := ⟨_, rfl, by kernel_rfl⟩
theorem rr11 : resRes Try.prog Try.f11.results.toList = some [.tmp 2] := by kernel_rfl
theorem smallSnap_spec (s : Snap) (h : AHeap) : ACalls Try.prog 11 [.ag s.cells] h (fun x h' => x = bl s.small ∧ h' = h) := by
  have h1 : (s.members.map fun x => [u64 x]).length = s.members.length := by simp
  have h2 := len_bytes s.data
  obtain ⟨c, hc1, hc2⟩ := res11
  refine ACalls.weak (ACalls.enter Try.func11 hc1 Try.ntmps11 hc2 (Nat.le_of_ble_eq_true rfl) rfl ?_)
  repeat' (first | refine S.nilK ?_ | (refine S.op rfl ?_; first | refine R.mv rfl ?_ | refine R.fieldAddr rfl ?_ | refine R.fieldAddrR rfl ?_ | refine R.loadR rfl rfl ?_ | refine R.load (by decide) rfl (by (repeat' (first | assumption | exact AHeap.set_same _ _ _ | refine AHeap.get_fresh ‹_› ?_ | refine AHeap.so ?_ ?_ | exact AHeap.n1 ‹_› | exact AHeap.n2 ‹_› | exact AHeap.ne_of ‹_› ‹_› | exact AHeap.n4 ‹_› ‹_› | exact AHeap.n5 ‹_› | exact AHeap.n6 ‹_› | exact AHeap.n7 ‹_› ‹_› | exact AHeap.n8 ‹_› ‹_›)); first | done | fail) rfl ?_ | refine R.pickT rfl rfl ?_ | refine R.pickF rfl rfl ?_ | refine R.len rfl ?_ | refine R.lenA rfl ?_ | refine R.lenStr rfl ?_ | refine R.box rfl rfl rfl (fun b hb => ?_) | ((first | refine S.leq rfl rfl ?_ ?_) <;> intro hlt <;> try (exfalso; omega))) | refine S.skip rfl ?_ | refine S.skip0 rfl ?_ | refine S.seq ?_ | refine S.region ?_ | refine S.condT rfl ?_ | refine S.condF rfl ?_ | refine RRun.skip ?_ | refine RRun.block ?_ | refine RRun.inBlock ?_ | refine RRun.exit rfl ?_)
  all_goals
    apply S.ret rr11
    case hx => repeat (first | exact ResAt.nil | apply ResAt.tmp rfl | apply ResAt.cellA rfl (by (repeat' (first | assumption | exact AHeap.set_same _ _ _ | refine AHeap.get_fresh ‹_› ?_ | refine AHeap.so ?_ ?_ | exact AHeap.n1 ‹_› | exact AHeap.n2 ‹_› | exact AHeap.ne_of ‹_› ‹_› | exact AHeap.n4 ‹_› ‹_› | exact AHeap.n5 ‹_› | exact AHeap.n6 ‹_› | exact AHeap.n7 ‹_› ‹_› | exact AHeap.n8 ‹_› ‹_›)); first | done | fail) (by rfl) | apply ResAt.cell1 rfl (by (repeat' (first | assumption | exact AHeap.set_same _ _ _ | refine AHeap.get_fresh ‹_› ?_ | refine AHeap.so ?_ ?_ | exact AHeap.n1 ‹_› | exact AHeap.n2 ‹_› | exact AHeap.ne_of ‹_› ‹_› | exact AHeap.n4 ‹_› ‹_› | exact AHeap.n5 ‹_› | exact AHeap.n6 ‹_› | exact AHeap.n7 ‹_› ‹_› | exact AHeap.n8 ‹_› ‹_›)); first | done | fail) (by rfl))
    refine ⟨_, _, .refl _, (by repeat (first | exact AHeap.le.refl _ | refine AHeap.le.set ?_ _ (by (repeat' (first | assumption | exact AHeap.z1 ‹_› | exact AHeap.z2 ‹_› | exact AHeap.z3 ‹_› | refine AHeap.so ?_ ?_ | exact AHeap.n1 ‹_› | exact AHeap.n2 ‹_› | exact AHeap.ne_of ‹_› ‹_› | exact AHeap.n4 ‹_› ‹_› | exact AHeap.n5 ‹_› | exact AHeap.n6 ‹_› | exact AHeap.n7 ‹_› ‹_› | exact AHeap.n8 ‹_› ‹_›)); first | done | fail) | refine AHeap.le.both ?_ _ _)), ?_, rfl⟩
    first
      | rw [show s.small = true by simp only [Snap.small, Bool.and_eq_true, decide_eq_true_eq]; omega]; rfl
      | rw [show s.small = false by simp only [Snap.small, Bool.and_eq_false_iff, decide_eq_false_iff_not]; omega]; rfl

def small (l : List Entry) : Bool := decide (l.length ≤ 12) && l.all fun e => decide (e.data.length ≤ 100)

theorem small_take (l : List Entry) (i : Nat) (hi : i < l.length) (hs : ¬ l[i].data.length ≤ 100) : small l = false := by
  have : (l.all fun e => decide (e.data.length ≤ 100)) = false := by
    simp only [List.all_eq_false, decide_eq_true_eq]
    exact ⟨l[i], List.getElem_mem hi, hs⟩
  rw [small, this, Bool.and_false]

def r12l0 : RCode :=
  (.seq (.region [
    ⟨(some 8), none, .act, .bin .lss (.tmp 7) (.tmp 6)⟩])
  (.seq (.cond (.tmp 8)
   .skip
   (.exit 0))
  (.seq (.block 1
   (.seq (.region [
     ⟨(some 9), none, .act, .indexAddr 4 (.tmp 5) (.tmp 7)⟩,
     ⟨(some 10), none, .act, .load true 4 (.tmp 9)⟩,
     ⟨(some 4), none, .act, .alloc [(.int .u64 0), (.int .u64 0), (.int .i64 0), (.slice none 0 0)]⟩,
     ⟨none, none, .act, .store 4 (.tmp 4) (.tmp 10)⟩])
   (.seq (.region [
     ⟨(some 11), none, .act, .fieldAddr 3 (.tmp 4)⟩,
     ⟨(some 12), none, .act, .load false 1 (.tmp 11)⟩,
     ⟨(some 13), none, .act, .len (.tmp 12)⟩,
     ⟨(some 14), none, .act, .bin .gtr (.tmp 13) (.const (.int .i64 100))⟩])
   (.cond (.tmp 14)
    (.seq (.region [
      ⟨(some 2), none, .act, .mv (.const (.bool false))⟩])
    .ret)
    .skip))))
  (.region [
    ⟨(some 15), none, .act, .bin .add (.tmp 7) (.const (.int .i64 1))⟩,
    ⟨(some 7), none, .act, .mv (.tmp 15)⟩]))))
/-- plenum/plenumlaw08.Small -/
def r12 : RCode :=
  (.seq (.region [
    ⟨(some 2), none, .act, .mv (.const (.bool false))⟩])
  (.seq (.seq (.region [
    ⟨(some 5), none, .act, .mv (.tmp 0)⟩,
    ⟨(some 6), none, .act, .len (.tmp 5)⟩,
    ⟨(some 7), none, .act, .mv (.const (.int .i64 0))⟩])
  (.block 0
   (.loop r12l0)))
  (.seq (.region [
    ⟨(some 16), none, .act, .mv (.tmp 0)⟩,
    ⟨(some 17), none, .act, .len (.tmp 16)⟩,
    ⟨(some 18), none, .act, .bin .leq (.tmp 17) (.const (.int .i64 12))⟩,
    ⟨(some 2), none, .act, .mv (.tmp 18)⟩])
  .ret)))
theorem res12 : ∃ c, Try.f12.body = some c ∧ resCode Try.prog 19 c = some r12 := ⟨_, rfl, by kernel_rfl⟩
theorem rr12 : resRes Try.prog Try.f12.results.toList = some [.tmp 2] := by kernel_rfl
theorem small_loop (l : List Entry) (hl : l.length ≤ 9223372036854775807) (h₀ : AHeap) (k : List RT)
    (hk : ∀ h, h₀.le h → (∀ j (hj : j < l.length), l[j].data.length ≤ 100) → RRun Try.prog Try.f12 19 k (Env.get [(0, entries l)]) h (Weak fun x h' => x = bl (small l) ∧ h' = h₀)) (m : Nat) :
    ∀ (i : Nat) (h : AHeap), i + m = l.length → h₀.le h → (∀ j (hj : j < l.length), j < i → l[j].data.length ≤ 100) →
      RRun Try.prog Try.f12 19 (.inLoop r12l0 :: .inBlock 0 :: k) (Env.get [(7, i64 i), (6, i64 l.length), (5, entries l), (0, entries l)]) h (Weak fun x h' => x = bl (small l) ∧ h' = h₀) := by
  induction m with
  | zero =>
    intro i h hi hg ha
    refine RRun.inLoop ?_
    repeat' (first | refine S.nilK ?_ | (refine S.op rfl ?_; first | refine R.mv rfl ?_ | refine R.fieldAddr rfl ?_ | refine R.fieldAddrR rfl ?_ | refine R.loadR rfl rfl ?_ | refine R.load (by decide) rfl (by (repeat' (first | assumption | exact AHeap.set_same _ _ _ | refine AHeap.get_fresh ‹_› ?_ | refine AHeap.so ?_ ?_ | exact AHeap.n1 ‹_› | exact AHeap.n2 ‹_› | exact AHeap.ne_of ‹_› ‹_› | exact AHeap.n4 ‹_› ‹_› | exact AHeap.n5 ‹_› | exact AHeap.n6 ‹_› | exact AHeap.n7 ‹_› ‹_› | exact AHeap.n8 ‹_› ‹_›)); first | done | fail) rfl ?_ | refine S.addI rfl rfl (by omega) ?_ | refine S.addU rfl rfl ?_ | refine S.addUc rfl (by decide) ?_ | refine R.len rfl ?_ | refine R.lenA rfl ?_ | refine R.lenStr rfl ?_ | refine R.alloc rfl (fun b hb => ?_) | ((first | refine S.lss rfl rfl ?_ ?_ | refine S.gtr rfl rfl ?_ ?_ | refine S.leq rfl rfl ?_ ?_) <;> intro hlt <;> try (exfalso; omega))) | (refine S.op0 rfl ?_; first | refine S.storeS rfl rfl rfl (by rfl) rfl (by first | decide | exact Nat.le_refl _ | exact Nat.le_of_ble_eq_true rfl) ?_ | refine S.store rfl rfl (by (repeat' (first | assumption | exact AHeap.set_same _ _ _ | refine AHeap.get_fresh ‹_› ?_ | refine AHeap.so ?_ ?_ | exact AHeap.n1 ‹_› | exact AHeap.n2 ‹_› | exact AHeap.ne_of ‹_› ‹_› | exact AHeap.n4 ‹_› ‹_› | exact AHeap.n5 ‹_› | exact AHeap.n6 ‹_› | exact AHeap.n7 ‹_› ‹_› | exact AHeap.n8 ‹_› ‹_›)); first | done | fail) rfl rfl rfl (by rfl) rfl ?_) | refine S.skip rfl ?_ | refine S.skip0 rfl ?_ | refine S.seq ?_ | refine S.region ?_ | refine S.condT rfl ?_ | refine S.condF rfl ?_ | refine RRun.skip ?_ | refine RRun.block ?_ | refine RRun.inBlock ?_ | refine RRun.exit rfl ?_)
    exact S.keep [0] rfl (hk h hg fun j hj => ha j hj (by omega))
  | succ m ih =>
    intro i h hi hg ha
    have hie : i < l.length := by omega
    have h1 : (l.map Entry.cells)[((i : Nat) : Int).toNat]? = some l[i].cells := by simp [hie]
    have hlen0 : (l.map Entry.cells).length = l.length := by simp
    have h2 := len_bytes l[i].data
    refine RRun.inLoop ?_
    repeat' (first | refine S.nilK ?_ | (refine S.op rfl ?_; first | refine R.indexAddr rfl rfl (by omega) h1 ?_ | refine R.mv rfl ?_ | refine R.fieldAddr rfl ?_ | refine R.fieldAddrR rfl ?_ | refine R.loadR rfl rfl ?_ | refine R.load (by decide) rfl (by (repeat' (first | assumption | exact AHeap.set_same _ _ _ | refine AHeap.get_fresh ‹_› ?_ | refine AHeap.so ?_ ?_ | exact AHeap.n1 ‹_› | exact AHeap.n2 ‹_› | exact AHeap.ne_of ‹_› ‹_› | exact AHeap.n4 ‹_› ‹_› | exact AHeap.n5 ‹_› | exact AHeap.n6 ‹_› | exact AHeap.n7 ‹_› ‹_› | exact AHeap.n8 ‹_› ‹_›)); first | done | fail) rfl ?_ | refine S.addI rfl rfl (by omega) ?_ | refine S.addU rfl rfl ?_ | refine S.addUc rfl (by decide) ?_ | refine R.len rfl ?_ | refine R.lenA rfl ?_ | refine R.lenStr rfl ?_ | refine R.alloc rfl (fun b hb => ?_) | ((first | refine S.lss rfl rfl ?_ ?_ | refine S.gtr rfl rfl ?_ ?_ | refine S.leq rfl rfl ?_ ?_) <;> intro hlt <;> try (exfalso; omega))) | (refine S.op0 rfl ?_; first | refine S.storeS rfl rfl rfl (by rfl) rfl (by first | decide | exact Nat.le_refl _ | exact Nat.le_of_ble_eq_true rfl) ?_ | refine S.store rfl rfl (by (repeat' (first | assumption | exact AHeap.set_same _ _ _ | refine AHeap.get_fresh ‹_› ?_ | refine AHeap.so ?_ ?_ | exact AHeap.n1 ‹_› | exact AHeap.n2 ‹_› | exact AHeap.ne_of ‹_› ‹_› | exact AHeap.n4 ‹_› ‹_› | exact AHeap.n5 ‹_› | exact AHeap.n6 ‹_› | exact AHeap.n7 ‹_› ‹_› | exact AHeap.n8 ‹_› ‹_›)); first | done | fail) rfl rfl rfl (by rfl) rfl ?_) | refine S.skip rfl ?_ | refine S.skip0 rfl ?_ | refine S.seq ?_ | refine S.region ?_ | refine S.condT rfl ?_ | refine S.condF rfl ?_ | refine RRun.skip ?_ | refine RRun.block ?_ | refine RRun.inBlock ?_ | refine RRun.exit rfl ?_)
    ·
      apply S.ret rr12
      case hx => repeat (first | exact ResAt.nil | apply ResAt.tmp rfl | apply ResAt.cellA rfl (by (repeat' (first | assumption | exact AHeap.set_same _ _ _ | refine AHeap.get_fresh ‹_› ?_ | refine AHeap.so ?_ ?_ | exact AHeap.n1 ‹_› | exact AHeap.n2 ‹_› | exact AHeap.ne_of ‹_› ‹_› | exact AHeap.n4 ‹_› ‹_› | exact AHeap.n5 ‹_› | exact AHeap.n6 ‹_› | exact AHeap.n7 ‹_› ‹_› | exact AHeap.n8 ‹_› ‹_›)); first | done | fail) (by rfl) | apply ResAt.cell1 rfl (by (repeat' (first | assumption | exact AHeap.set_same _ _ _ | refine AHeap.get_fresh ‹_› ?_ | refine AHeap.so ?_ ?_ | exact AHeap.n1 ‹_› | exact AHeap.n2 ‹_› | exact AHeap.ne_of ‹_› ‹_› | exact AHeap.n4 ‹_› ‹_› | exact AHeap.n5 ‹_› | exact AHeap.n6 ‹_› | exact AHeap.n7 ‹_› ‹_› | exact AHeap.n8 ‹_› ‹_›)); first | done | fail) (by rfl))
      refine ⟨_, _, .refl _, (hg.set _ (hg.none (by assumption))).set _ (hg.none (by assumption)), ?_, rfl⟩
      rw [small_take l i hie (by omega)]; rfl
    · rw [show ((i : Int) + 1) = ((i + 1 : Nat) : Int) by omega]
      refine S.keep [7, 6, 5, 0] rfl (ih (i + 1) _ (by omega) ((hg.set _ (hg.none (by assumption))).set _ (hg.none (by assumption))) ?_)
      intro j hj hlt'
      by_cases e : j = i
      · subst e; omega
      · exact ha j hj (by omega)

theorem small_spec (l : List Entry) (hl : l.length ≤ 9223372036854775807) (h : AHeap) : ACalls Try.prog 12 [entries l] h (fun x h' => x = bl (small l) ∧ h' = h) := by
  have hlen : (l.map Entry.cells).length = l.length := by simp
  obtain ⟨c, hc1, hc2⟩ := res12
  refine ACalls.weak (ACalls.enter Try.func12 hc1 Try.ntmps12 hc2 (Nat.le_of_ble_eq_true rfl) rfl ?_)
  repeat' (first | refine S.nilK ?_ | (refine S.op rfl ?_; first | refine R.mv rfl ?_ | refine R.fieldAddr rfl ?_ | refine R.fieldAddrR rfl ?_ | refine R.loadR rfl rfl ?_ | refine R.load (by decide) rfl (by (repeat' (first | assumption | exact AHeap.set_same _ _ _ | refine AHeap.get_fresh ‹_› ?_ | refine AHeap.so ?_ ?_ | exact AHeap.n1 ‹_› | exact AHeap.n2 ‹_› | exact AHeap.ne_of ‹_› ‹_› | exact AHeap.n4 ‹_› ‹_› | exact AHeap.n5 ‹_› | exact AHeap.n6 ‹_› | exact AHeap.n7 ‹_› ‹_› | exact AHeap.n8 ‹_› ‹_›)); first | done | fail) rfl ?_ | refine S.addI rfl rfl (by omega) ?_ | refine S.addU rfl rfl ?_ | refine S.addUc rfl (by decide) ?_ | refine R.len rfl ?_ | refine R.lenA rfl ?_ | refine R.lenStr rfl ?_ | refine R.alloc rfl (fun b hb => ?_) | ((first | refine S.lss rfl rfl ?_ ?_ | refine S.gtr rfl rfl ?_ ?_ | refine S.leq rfl rfl ?_ ?_) <;> intro hlt <;> try (exfalso; omega))) | (refine S.op0 rfl ?_; first | refine S.storeS rfl rfl rfl (by rfl) rfl (by first | decide | exact Nat.le_refl _ | exact Nat.le_of_ble_eq_true rfl) ?_ | refine S.store rfl rfl (by (repeat' (first | assumption | exact AHeap.set_same _ _ _ | refine AHeap.get_fresh ‹_› ?_ | refine AHeap.so ?_ ?_ | exact AHeap.n1 ‹_› | exact AHeap.n2 ‹_› | exact AHeap.ne_of ‹_› ‹_› | exact AHeap.n4 ‹_› ‹_› | exact AHeap.n5 ‹_› | exact AHeap.n6 ‹_› | exact AHeap.n7 ‹_› ‹_› | exact AHeap.n8 ‹_› ‹_›)); first | done | fail) rfl rfl rfl (by rfl) rfl ?_) | refine S.skip rfl ?_ | refine S.skip0 rfl ?_ | refine S.seq ?_ | refine S.region ?_ | refine S.condT rfl ?_ | refine S.condF rfl ?_ | refine RRun.skip ?_ | refine RRun.block ?_ | refine RRun.inBlock ?_ | refine RRun.exit rfl ?_)
  rw [hlen]
  refine RRun.loopIn (S.keep [7, 6, 5, 0] rfl ?_)
  refine small_loop l hl h _ ?_ l.length 0 h (by omega) (.refl h) (fun j _ hj => absurd hj (Nat.not_lt_zero _))
  intro h' hle hall
  have ha : (l.all fun e => decide (e.data.length ≤ 100)) = true := by
    simp only [List.all_eq_true, decide_eq_true_eq]
    intro x hx
    obtain ⟨j, hj, rfl⟩ := List.getElem_of_mem hx
    exact hall j hj
  repeat' (first | refine S.nilK ?_ | (refine S.op rfl ?_; first | refine R.mv rfl ?_ | refine R.fieldAddr rfl ?_ | refine R.fieldAddrR rfl ?_ | refine R.loadR rfl rfl ?_ | refine R.load (by decide) rfl (by (repeat' (first | assumption | exact AHeap.set_same _ _ _ | refine AHeap.get_fresh ‹_› ?_ | refine AHeap.so ?_ ?_ | exact AHeap.n1 ‹_› | exact AHeap.n2 ‹_› | exact AHeap.ne_of ‹_› ‹_› | exact AHeap.n4 ‹_› ‹_› | exact AHeap.n5 ‹_› | exact AHeap.n6 ‹_› | exact AHeap.n7 ‹_› ‹_› | exact AHeap.n8 ‹_› ‹_›)); first | done | fail) rfl ?_ | refine S.addI rfl rfl (by omega) ?_ | refine S.addU rfl rfl ?_ | refine S.addUc rfl (by decide) ?_ | refine R.len rfl ?_ | refine R.lenA rfl ?_ | refine R.lenStr rfl ?_ | refine R.alloc rfl (fun b hb => ?_) | ((first | refine S.lss rfl rfl ?_ ?_ | refine S.gtr rfl rfl ?_ ?_ | refine S.leq rfl rfl ?_ ?_) <;> intro hlt <;> try (exfalso; omega))) | (refine S.op0 rfl ?_; first | refine S.storeS rfl rfl rfl (by rfl) rfl (by first | decide | exact Nat.le_refl _ | exact Nat.le_of_ble_eq_true rfl) ?_ | refine S.store rfl rfl (by (repeat' (first | assumption | exact AHeap.set_same _ _ _ | refine AHeap.get_fresh ‹_› ?_ | refine AHeap.so ?_ ?_ | exact AHeap.n1 ‹_› | exact AHeap.n2 ‹_› | exact AHeap.ne_of ‹_› ‹_› | exact AHeap.n4 ‹_› ‹_› | exact AHeap.n5 ‹_› | exact AHeap.n6 ‹_› | exact AHeap.n7 ‹_› ‹_› | exact AHeap.n8 ‹_› ‹_›)); first | done | fail) rfl rfl rfl (by rfl) rfl ?_) | refine S.skip rfl ?_ | refine S.skip0 rfl ?_ | refine S.seq ?_ | refine S.region ?_ | refine S.condT rfl ?_ | refine S.condF rfl ?_ | refine RRun.skip ?_ | refine RRun.block ?_ | refine RRun.inBlock ?_ | refine RRun.exit rfl ?_)
  ·
    apply S.ret rr12
    case hx => repeat (first | exact ResAt.nil | apply ResAt.tmp rfl | apply ResAt.cellA rfl (by (repeat' (first | assumption | exact AHeap.set_same _ _ _ | refine AHeap.get_fresh ‹_› ?_ | refine AHeap.so ?_ ?_ | exact AHeap.n1 ‹_› | exact AHeap.n2 ‹_› | exact AHeap.ne_of ‹_› ‹_› | exact AHeap.n4 ‹_› ‹_› | exact AHeap.n5 ‹_› | exact AHeap.n6 ‹_› | exact AHeap.n7 ‹_› ‹_› | exact AHeap.n8 ‹_› ‹_›)); first | done | fail) (by rfl) | apply ResAt.cell1 rfl (by (repeat' (first | assumption | exact AHeap.set_same _ _ _ | refine AHeap.get_fresh ‹_› ?_ | refine AHeap.so ?_ ?_ | exact AHeap.n1 ‹_› | exact AHeap.n2 ‹_› | exact AHeap.ne_of ‹_› ‹_› | exact AHeap.n4 ‹_› ‹_› | exact AHeap.n5 ‹_› | exact AHeap.n6 ‹_› | exact AHeap.n7 ‹_› ‹_› | exact AHeap.n8 ‹_› ‹_›)); first | done | fail) (by rfl))
    refine ⟨_, _, .refl _, hle, ?_, rfl⟩
    rw [small, ha, decide_eq_true (show l.length ≤ 12 by omega)]; rfl
  ·
    apply S.ret rr12
    case hx => repeat (first | exact ResAt.nil | apply ResAt.tmp rfl | apply ResAt.cellA rfl (by (repeat' (first | assumption | exact AHeap.set_same _ _ _ | refine AHeap.get_fresh ‹_› ?_ | refine AHeap.so ?_ ?_ | exact AHeap.n1 ‹_› | exact AHeap.n2 ‹_› | exact AHeap.ne_of ‹_› ‹_› | exact AHeap.n4 ‹_› ‹_› | exact AHeap.n5 ‹_› | exact AHeap.n6 ‹_› | exact AHeap.n7 ‹_› ‹_› | exact AHeap.n8 ‹_› ‹_›)); first | done | fail) (by rfl) | apply ResAt.cell1 rfl (by (repeat' (first | assumption | exact AHeap.set_same _ _ _ | refine AHeap.get_fresh ‹_› ?_ | refine AHeap.so ?_ ?_ | exact AHeap.n1 ‹_› | exact AHeap.n2 ‹_› | exact AHeap.ne_of ‹_› ‹_› | exact AHeap.n4 ‹_› ‹_› | exact AHeap.n5 ‹_› | exact AHeap.n6 ‹_› | exact AHeap.n7 ‹_› ‹_› | exact AHeap.n8 ‹_› ‹_›)); first | done | fail) (by rfl))
    refine ⟨_, _, .refl _, hle, ?_, rfl⟩
    rw [small, ha, decide_eq_false (show ¬ l.length ≤ 12 by omega)]; rfl

end Go.Proofs.Ytnmgamcmjjngcaa
