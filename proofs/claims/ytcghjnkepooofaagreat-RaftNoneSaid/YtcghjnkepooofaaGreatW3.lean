import Derived.Test.YtcghjnkepooofaaGreatW2
set_option linter.unusedVariables false
set_option linter.unusedSimpArgs false
namespace Go.Proofs.YtcghjnkepooofaaGreat
open Go.Av

structure Entry where
  index : UInt64
  term : UInt64
  kind : Int
  data : List UInt8

structure Snap where
  index : UInt64
  term : UInt64
  members : List UInt64
  data : List UInt8

def Entry.cells (e : Entry) : List AV := [u64 e.index, u64 e.term, i64 e.kind, bys e.data]
def entries (l : List Entry) : AV := .sl 4 (l.map Entry.cells) .ro
def Snap.cells (s : Snap) : List AV := [u64 s.index, u64 s.term, u64s s.members, bys s.data]

structure Msg where
  kind : Int
  src : UInt64
  dst : UInt64
  term : UInt64
  index : UInt64
  logTerm : UInt64
  commit : UInt64
  hint : UInt64
  reject : Bool
  ents : List Entry
  snap : Snap
def Msg.cells (m : Msg) : List AV := [i64 m.kind, u64 m.src, u64 m.dst, u64 m.term, u64 m.index, u64 m.logTerm, u64 m.commit, u64 m.hint, bl m.reject, entries m.ents, u64 m.snap.index, u64 m.snap.term, u64s m.snap.members, bys m.snap.data]

structure Inp where
  kind : Int
  draw : UInt64
  m : Msg
  data : List UInt8
  members : List UInt64
  i : UInt64
def Inp.cells (y : Inp) : List AV := [i64 y.kind, u64 y.draw] ++ y.m.cells ++ [bys y.data, u64s y.members, u64 y.i]

def Snap.small (s : Snap) : Bool := decide (s.members.length ≤ 9) && decide (s.data.length ≤ 200)

/-- plenum/plenumlaw08.SmallSnap -/
def r19 : RCode :=
  (.seq (.region [
    ⟨(some 1), none, .act, .box (.tmp 0)⟩,
    ⟨(some 2), none, .act, .mv (.const (.bool false))⟩])
  (.seq (.region [
    ⟨(some 3), none, .act, .fieldAddr 2 (.tmp 1)⟩,
    ⟨(some 4), none, .act, .load false 1 (.tmp 3)⟩,
    ⟨(some 5), none, .act, .len (.tmp 4)⟩,
    ⟨(some 6), none, .act, .bin .leq (.tmp 5) (.const (.int .i64 9))⟩,
    ⟨(some 7), none, .act, .mv (.tmp 6)⟩,
    ⟨(some 8), (some (7, true)), .act, .fieldAddr 3 (.tmp 1)⟩,
    ⟨(some 9), (some (7, true)), .act, .load false 1 (.tmp 8)⟩,
    ⟨(some 10), (some (7, true)), .act, .len (.tmp 9)⟩,
    ⟨(some 11), (some (7, true)), .act, .bin .leq (.tmp 10) (.const (.int .i64 200))⟩,
    ⟨(some 12), none, .act, .pick (.tmp 7) (.tmp 11) (.const (.bool false))⟩,
    ⟨(some 2), none, .act, .mv (.tmp 12)⟩])
  .ret))
theorem res19 : ∃ c, Tryz.f19.body = some c ∧ resCode Tryz.prog 13 c = some r19 := ⟨_, rfl, by kernel_rfl⟩
theorem rr19 : resRes Tryz.prog Tryz.f19.results.toList = some [.tmp 2] := by kernel_rfl
theorem smallSnap_spec (s : Snap) (h : AHeap) : ACalls Tryz.prog 19 [.ag s.cells] h (fun x h' => x = bl s.small ∧ h' = h) := by
  have h1 : (s.members.map fun x => [u64 x]).length = s.members.length := by simp
  have h2 := len_bytes s.data
  obtain ⟨c, hc1, hc2⟩ := res19
  refine ACalls.weak (ACalls.enter Tryz.func19 hc1 Tryz.ntmps19 hc2 (Nat.le_of_ble_eq_true rfl) rfl ?_)
  repeat' (first
    | refine S.nilK ?_
    | (refine S.op rfl ?_; first
      | refine R.mv rfl ?_
      | refine R.fieldAddr rfl ?_
      | refine R.fieldAddrR rfl ?_
      | refine R.nilCheck rfl ?_
      | refine R.nilCheckR rfl ?_
      | refine R.loadR rfl rfl ?_
      | refine R.load (by decide) rfl (by (repeat' (first | assumption | exact AHeap.set_same _ _ _ | refine AHeap.get_fresh (by assumption) ?_ | (refine (AHeap.set_other _ _ ?_).trans ?_; first | exact (AHeap.fresh_set (by assumption)).1 | exact Ne.symm (AHeap.fresh_set (by assumption)).1 | exact AHeap.ne_of (by assumption) (by assumption) | exact Ne.symm (AHeap.ne_of (by assumption) (by assumption)) | exact (AHeap.fresh_set (AHeap.fresh_set (by assumption)).2).1 | exact Ne.symm (AHeap.fresh_set (AHeap.fresh_set (by assumption)).2).1 | exact AHeap.ne_of (AHeap.fresh_set (by assumption)).2 (by assumption) | exact Ne.symm (AHeap.ne_of (AHeap.fresh_set (by assumption)).2 (by assumption)) | assumption | skip) | exact (AHeap.fresh_set (by assumption)).1 | exact Ne.symm (AHeap.fresh_set (by assumption)).1 | exact AHeap.ne_of (by assumption) (by assumption) | exact Ne.symm (AHeap.ne_of (by assumption) (by assumption)) | exact (AHeap.fresh_set (AHeap.fresh_set (by assumption)).2).1 | exact Ne.symm (AHeap.fresh_set (AHeap.fresh_set (by assumption)).2).1 | exact AHeap.ne_of (AHeap.fresh_set (by assumption)).2 (by assumption) | exact Ne.symm (AHeap.ne_of (AHeap.fresh_set (by assumption)).2 (by assumption)))); first | done | fail) rfl ?_
      | refine S.addI rfl rfl (by omega) ?_
      | refine S.subI rfl rfl (by omega) ?_
      | refine S.addU rfl rfl ?_
      | refine S.subU rfl rfl ?_
      | refine S.addUc rfl (by decide) ?_
      | refine S.subUc rfl (by decide) ?_
      | refine S.arith rfl rfl rfl ?_
      | refine R.pickT rfl rfl ?_
      | refine R.pickF rfl rfl ?_
      | refine R.len rfl ?_
      | refine R.lenA rfl ?_
      | refine R.lenStr rfl ?_
      | refine S.convIU rfl (by omega) ?_
      | refine S.convUI rfl (by omega) ?_
      | refine R.convInt rfl ?_
      | refine R.not rfl ?_
      | refine R.eqPtrNil rfl rfl ?_
      | refine R.extract rfl rfl ?_
      | refine R.field rfl rfl ?_
      | refine R.alloc rfl (fun b hb => ?_)
      | refine R.box rfl rfl rfl (fun b hb => ?_)
      | refine R.build rfl rfl ?_
      | refine R.buildSl rfl rfl rfl (by decide) ?_
      | refine R.toStr rfl ?_
      | refine R.convStr rfl ?_
      | refine R.minmax rfl ?_
      | refine R.makeFunc rfl rfl ?_
      | (first | refine S.lss rfl rfl (fun hlt => ?_) (fun hlt => by exfalso; omega) | refine S.lss rfl rfl (fun hlt => by exfalso; omega) (fun hlt => ?_) | refine S.lss rfl rfl (fun hlt => ?_) (fun hlt => ?_))
      | (first | refine S.gtr rfl rfl (fun hlt => ?_) (fun hlt => by exfalso; omega) | refine S.gtr rfl rfl (fun hlt => by exfalso; omega) (fun hlt => ?_) | refine S.gtr rfl rfl (fun hlt => ?_) (fun hlt => ?_))
      | (first | refine S.leq rfl rfl (fun hlt => ?_) (fun hlt => by exfalso; omega) | refine S.leq rfl rfl (fun hlt => by exfalso; omega) (fun hlt => ?_) | refine S.leq rfl rfl (fun hlt => ?_) (fun hlt => ?_))
      | (first | refine S.geq rfl rfl (fun hlt => ?_) (fun hlt => by exfalso; omega) | refine S.geq rfl rfl (fun hlt => by exfalso; omega) (fun hlt => ?_) | refine S.geq rfl rfl (fun hlt => ?_) (fun hlt => ?_))
      | (first | refine S.eqInt rfl rfl (fun hlt => ?_) (fun hlt => by exfalso; omega) | refine S.eqInt rfl rfl (fun hlt => by exfalso; omega) (fun hlt => ?_) | refine S.eqInt rfl rfl (fun hlt => ?_) (fun hlt => ?_)))
    | (refine S.op0 rfl ?_; first | refine S.storeS rfl rfl rfl (by rfl) rfl (by first | decide | exact Nat.le_refl _ | exact Nat.le_of_ble_eq_true rfl) ?_ | refine S.store rfl rfl (by (repeat' (first | assumption | exact AHeap.set_same _ _ _ | refine AHeap.get_fresh (by assumption) ?_ | (refine (AHeap.set_other _ _ ?_).trans ?_; first | exact (AHeap.fresh_set (by assumption)).1 | exact Ne.symm (AHeap.fresh_set (by assumption)).1 | exact AHeap.ne_of (by assumption) (by assumption) | exact Ne.symm (AHeap.ne_of (by assumption) (by assumption)) | exact (AHeap.fresh_set (AHeap.fresh_set (by assumption)).2).1 | exact Ne.symm (AHeap.fresh_set (AHeap.fresh_set (by assumption)).2).1 | exact AHeap.ne_of (AHeap.fresh_set (by assumption)).2 (by assumption) | exact Ne.symm (AHeap.ne_of (AHeap.fresh_set (by assumption)).2 (by assumption)) | assumption | skip) | exact (AHeap.fresh_set (by assumption)).1 | exact Ne.symm (AHeap.fresh_set (by assumption)).1 | exact AHeap.ne_of (by assumption) (by assumption) | exact Ne.symm (AHeap.ne_of (by assumption) (by assumption)) | exact (AHeap.fresh_set (AHeap.fresh_set (by assumption)).2).1 | exact Ne.symm (AHeap.fresh_set (AHeap.fresh_set (by assumption)).2).1 | exact AHeap.ne_of (AHeap.fresh_set (by assumption)).2 (by assumption) | exact Ne.symm (AHeap.ne_of (AHeap.fresh_set (by assumption)).2 (by assumption)))); first | done | fail) rfl rfl rfl (by rfl) rfl ?_)
    | refine S.skip rfl ?_
    | refine S.skip0 rfl ?_
    | refine S.seq ?_
    | refine S.region ?_
    | refine S.regionT ?_
    | refine S.tstep ?_
    | refine S.talt ?_ ?_
    | exact S.tstop
    | refine S.tdone ?_
    | refine S.condT rfl ?_
    | refine S.condF rfl ?_
    | refine RRun.skip ?_
    | refine RRun.block ?_
    | refine RRun.inBlock ?_
    | refine RRun.exit rfl ?_)
  all_goals
    apply S.ret rr19
    case hx => repeat (first | exact ResAt.nil | apply ResAt.tmp rfl | apply ResAt.cellA rfl (by (repeat' (first | assumption | exact AHeap.set_same _ _ _ | refine AHeap.get_fresh (by assumption) ?_ | (refine (AHeap.set_other _ _ ?_).trans ?_; first | exact (AHeap.fresh_set (by assumption)).1 | exact Ne.symm (AHeap.fresh_set (by assumption)).1 | exact AHeap.ne_of (by assumption) (by assumption) | exact Ne.symm (AHeap.ne_of (by assumption) (by assumption)) | exact (AHeap.fresh_set (AHeap.fresh_set (by assumption)).2).1 | exact Ne.symm (AHeap.fresh_set (AHeap.fresh_set (by assumption)).2).1 | exact AHeap.ne_of (AHeap.fresh_set (by assumption)).2 (by assumption) | exact Ne.symm (AHeap.ne_of (AHeap.fresh_set (by assumption)).2 (by assumption)) | assumption | skip) | exact (AHeap.fresh_set (by assumption)).1 | exact Ne.symm (AHeap.fresh_set (by assumption)).1 | exact AHeap.ne_of (by assumption) (by assumption) | exact Ne.symm (AHeap.ne_of (by assumption) (by assumption)) | exact (AHeap.fresh_set (AHeap.fresh_set (by assumption)).2).1 | exact Ne.symm (AHeap.fresh_set (AHeap.fresh_set (by assumption)).2).1 | exact AHeap.ne_of (AHeap.fresh_set (by assumption)).2 (by assumption) | exact Ne.symm (AHeap.ne_of (AHeap.fresh_set (by assumption)).2 (by assumption)))); first | done | fail) (by rfl) | apply ResAt.cell1 rfl (by (repeat' (first | assumption | exact AHeap.set_same _ _ _ | refine AHeap.get_fresh (by assumption) ?_ | (refine (AHeap.set_other _ _ ?_).trans ?_; first | exact (AHeap.fresh_set (by assumption)).1 | exact Ne.symm (AHeap.fresh_set (by assumption)).1 | exact AHeap.ne_of (by assumption) (by assumption) | exact Ne.symm (AHeap.ne_of (by assumption) (by assumption)) | exact (AHeap.fresh_set (AHeap.fresh_set (by assumption)).2).1 | exact Ne.symm (AHeap.fresh_set (AHeap.fresh_set (by assumption)).2).1 | exact AHeap.ne_of (AHeap.fresh_set (by assumption)).2 (by assumption) | exact Ne.symm (AHeap.ne_of (AHeap.fresh_set (by assumption)).2 (by assumption)) | assumption | skip) | exact (AHeap.fresh_set (by assumption)).1 | exact Ne.symm (AHeap.fresh_set (by assumption)).1 | exact AHeap.ne_of (by assumption) (by assumption) | exact Ne.symm (AHeap.ne_of (by assumption) (by assumption)) | exact (AHeap.fresh_set (AHeap.fresh_set (by assumption)).2).1 | exact Ne.symm (AHeap.fresh_set (AHeap.fresh_set (by assumption)).2).1 | exact AHeap.ne_of (AHeap.fresh_set (by assumption)).2 (by assumption) | exact Ne.symm (AHeap.ne_of (AHeap.fresh_set (by assumption)).2 (by assumption)))); first | done | fail) (by rfl))
    refine ⟨_, _, .refl _, (by repeat (first | exact AHeap.le.refl _ | refine AHeap.le.set ?_ _ (by (repeat' (first | assumption | exact (AHeap.fresh_set (by assumption)).2 | exact (AHeap.fresh_set (AHeap.fresh_set (by assumption)).2).2 | exact (AHeap.fresh_set (AHeap.fresh_set (AHeap.fresh_set (by assumption)).2).2).2 | refine (AHeap.set_other _ _ ?_).trans ?_ | exact (AHeap.fresh_set (by assumption)).1 | exact Ne.symm (AHeap.fresh_set (by assumption)).1 | exact AHeap.ne_of (by assumption) (by assumption) | exact Ne.symm (AHeap.ne_of (by assumption) (by assumption)) | exact (AHeap.fresh_set (AHeap.fresh_set (by assumption)).2).1 | exact Ne.symm (AHeap.fresh_set (AHeap.fresh_set (by assumption)).2).1 | exact AHeap.ne_of (AHeap.fresh_set (by assumption)).2 (by assumption) | exact Ne.symm (AHeap.ne_of (AHeap.fresh_set (by assumption)).2 (by assumption)))); first | done | fail) | refine AHeap.le.both ?_ _ _)), ?_, rfl⟩
    first
      | rw [show s.small = true by simp only [Snap.small, Bool.and_eq_true, decide_eq_true_eq]; omega]; rfl
      | rw [show s.small = false by simp only [Snap.small, Bool.and_eq_false_iff, decide_eq_false_iff_not]; omega]; rfl

def small (l : List Entry) : Bool := decide (l.length ≤ 12) && l.all fun e => decide (e.data.length ≤ 100)

theorem small_take (l : List Entry) (i : Nat) (hi : i < l.length) (hs : ¬ l[i].data.length ≤ 100) : small l = false := by
  have : (l.all fun e => decide (e.data.length ≤ 100)) = false := by
    simp only [List.all_eq_false, decide_eq_true_eq]
    exact ⟨l[i], List.getElem_mem hi, hs⟩
  rw [small, this, Bool.and_false]

def r18l0 : RCode :=
  (.seq (.region [
    ⟨(some 8), none, .act, .bin .lss (.tmp 7) (.tmp 6)⟩])
  (.seq (.cond (.tmp 8)
   .skip
   (.exit 0))
  (.seq (.block 1
   (.seq (.region [
     ⟨(some 9), none, .act, .indexAddr 4 (.tmp 5) (.tmp 7)⟩,
     ⟨(some 10), none, .act, .load true 4 (.tmp 9)⟩,
     ⟨(some 4), none, .act, .alloc [(.int .u64 0), (.int .u64 0), (.int .i64 0), (.slice none 0 0)]⟩,
     ⟨none, none, .act, .store 4 (.tmp 4) (.tmp 10)⟩])
   (.seq (.region [
     ⟨(some 11), none, .act, .fieldAddr 3 (.tmp 4)⟩,
     ⟨(some 12), none, .act, .load false 1 (.tmp 11)⟩,
     ⟨(some 13), none, .act, .len (.tmp 12)⟩,
     ⟨(some 14), none, .act, .bin .gtr (.tmp 13) (.const (.int .i64 100))⟩])
   (.cond (.tmp 14)
    (.seq (.region [
      ⟨(some 2), none, .act, .mv (.const (.bool false))⟩])
    .ret)
    .skip))))
  (.region [
    ⟨(some 15), none, .act, .bin .add (.tmp 7) (.const (.int .i64 1))⟩,
    ⟨(some 7), none, .act, .mv (.tmp 15)⟩]))))
/-- plenum/plenumlaw08.Small -/
def r18 : RCode :=
  (.seq (.region [
    ⟨(some 2), none, .act, .mv (.const (.bool false))⟩])
  (.seq (.seq (.region [
    ⟨(some 5), none, .act, .mv (.tmp 0)⟩,
    ⟨(some 6), none, .act, .len (.tmp 5)⟩,
    ⟨(some 7), none, .act, .mv (.const (.int .i64 0))⟩])
  (.block 0
   (.loop r18l0)))
  (.seq (.region [
    ⟨(some 16), none, .act, .mv (.tmp 0)⟩,
    ⟨(some 17), none, .act, .len (.tmp 16)⟩,
    ⟨(some 18), none, .act, .bin .leq (.tmp 17) (.const (.int .i64 12))⟩,
    ⟨(some 2), none, .act, .mv (.tmp 18)⟩])
  .ret)))
theorem res18 : ∃ c, Tryz.f18.body = some c ∧ resCode Tryz.prog 19 c = some r18 := ⟨_, rfl, by kernel_rfl⟩
theorem rr18 : resRes Tryz.prog Tryz.f18.results.toList = some [.tmp 2] := by kernel_rfl
theorem small_loop (l : List Entry) (hl : l.length ≤ 9223372036854775807) (h₀ : AHeap) (k : List RT)
    (hk : ∀ h, h₀.le h → (∀ j (hj : j < l.length), l[j].data.length ≤ 100) → RRun Tryz.prog Tryz.f18 19 k (Env.get [(0, entries l)]) h (Weak fun x h' => x = bl (small l) ∧ h' = h₀)) (m : Nat) :
    ∀ (i : Nat) (h : AHeap), i + m = l.length → h₀.le h → (∀ j (hj : j < l.length), j < i → l[j].data.length ≤ 100) →
      RRun Tryz.prog Tryz.f18 19 (.inLoop r18l0 :: .inBlock 0 :: k) (Env.get [(7, i64 i), (6, i64 l.length), (5, entries l), (0, entries l)]) h (Weak fun x h' => x = bl (small l) ∧ h' = h₀) := by
  induction m with
  | zero =>
    intro i h hi hg ha
    refine RRun.inLoop ?_
    repeat' (first
      | refine S.nilK ?_
      | (refine S.op rfl ?_; first
        | refine R.mv rfl ?_
        | refine R.fieldAddr rfl ?_
        | refine R.fieldAddrR rfl ?_
        | refine R.nilCheck rfl ?_
        | refine R.nilCheckR rfl ?_
        | refine R.loadR rfl rfl ?_
        | refine R.load (by decide) rfl (by (repeat' (first | assumption | exact AHeap.set_same _ _ _ | refine AHeap.get_fresh (by assumption) ?_ | (refine (AHeap.set_other _ _ ?_).trans ?_; first | exact (AHeap.fresh_set (by assumption)).1 | exact Ne.symm (AHeap.fresh_set (by assumption)).1 | exact AHeap.ne_of (by assumption) (by assumption) | exact Ne.symm (AHeap.ne_of (by assumption) (by assumption)) | exact (AHeap.fresh_set (AHeap.fresh_set (by assumption)).2).1 | exact Ne.symm (AHeap.fresh_set (AHeap.fresh_set (by assumption)).2).1 | exact AHeap.ne_of (AHeap.fresh_set (by assumption)).2 (by assumption) | exact Ne.symm (AHeap.ne_of (AHeap.fresh_set (by assumption)).2 (by assumption)) | assumption | skip) | exact (AHeap.fresh_set (by assumption)).1 | exact Ne.symm (AHeap.fresh_set (by assumption)).1 | exact AHeap.ne_of (by assumption) (by assumption) | exact Ne.symm (AHeap.ne_of (by assumption) (by assumption)) | exact (AHeap.fresh_set (AHeap.fresh_set (by assumption)).2).1 | exact Ne.symm (AHeap.fresh_set (AHeap.fresh_set (by assumption)).2).1 | exact AHeap.ne_of (AHeap.fresh_set (by assumption)).2 (by assumption) | exact Ne.symm (AHeap.ne_of (AHeap.fresh_set (by assumption)).2 (by assumption)))); first | done | fail) rfl ?_
        | refine S.addI rfl rfl (by omega) ?_
        | refine S.subI rfl rfl (by omega) ?_
        | refine S.addU rfl rfl ?_
        | refine S.subU rfl rfl ?_
        | refine S.addUc rfl (by decide) ?_
        | refine S.subUc rfl (by decide) ?_
        | refine S.arith rfl rfl rfl ?_
        | refine R.pickT rfl rfl ?_
        | refine R.pickF rfl rfl ?_
        | refine R.len rfl ?_
        | refine R.lenA rfl ?_
        | refine R.lenStr rfl ?_
        | refine S.convIU rfl (by omega) ?_
        | refine S.convUI rfl (by omega) ?_
        | refine R.convInt rfl ?_
        | refine R.not rfl ?_
        | refine R.eqPtrNil rfl rfl ?_
        | refine R.extract rfl rfl ?_
        | refine R.field rfl rfl ?_
        | refine R.alloc rfl (fun b hb => ?_)
        | refine R.box rfl rfl rfl (fun b hb => ?_)
        | refine R.build rfl rfl ?_
        | refine R.buildSl rfl rfl rfl (by decide) ?_
        | refine R.toStr rfl ?_
        | refine R.convStr rfl ?_
        | refine R.minmax rfl ?_
        | refine R.makeFunc rfl rfl ?_
        | (first | refine S.lss rfl rfl (fun hlt => ?_) (fun hlt => by exfalso; omega) | refine S.lss rfl rfl (fun hlt => by exfalso; omega) (fun hlt => ?_) | refine S.lss rfl rfl (fun hlt => ?_) (fun hlt => ?_))
        | (first | refine S.gtr rfl rfl (fun hlt => ?_) (fun hlt => by exfalso; omega) | refine S.gtr rfl rfl (fun hlt => by exfalso; omega) (fun hlt => ?_) | refine S.gtr rfl rfl (fun hlt => ?_) (fun hlt => ?_))
        | (first | refine S.leq rfl rfl (fun hlt => ?_) (fun hlt => by exfalso; omega) | refine S.leq rfl rfl (fun hlt => by exfalso; omega) (fun hlt => ?_) | refine S.leq rfl rfl (fun hlt => ?_) (fun hlt => ?_))
        | (first | refine S.geq rfl rfl (fun hlt => ?_) (fun hlt => by exfalso; omega) | refine S.geq rfl rfl (fun hlt => by exfalso; omega) (fun hlt => ?_) | refine S.geq rfl rfl (fun hlt => ?_) (fun hlt => ?_))
        | (first | refine S.eqInt rfl rfl (fun hlt => ?_) (fun hlt => by exfalso; omega) | refine S.eqInt rfl rfl (fun hlt => by exfalso; omega) (fun hlt => ?_) | refine S.eqInt rfl rfl (fun hlt => ?_) (fun hlt => ?_)))
      | (refine S.op0 rfl ?_; first | refine S.storeS rfl rfl rfl (by rfl) rfl (by first | decide | exact Nat.le_refl _ | exact Nat.le_of_ble_eq_true rfl) ?_ | refine S.store rfl rfl (by (repeat' (first | assumption | exact AHeap.set_same _ _ _ | refine AHeap.get_fresh (by assumption) ?_ | (refine (AHeap.set_other _ _ ?_).trans ?_; first | exact (AHeap.fresh_set (by assumption)).1 | exact Ne.symm (AHeap.fresh_set (by assumption)).1 | exact AHeap.ne_of (by assumption) (by assumption) | exact Ne.symm (AHeap.ne_of (by assumption) (by assumption)) | exact (AHeap.fresh_set (AHeap.fresh_set (by assumption)).2).1 | exact Ne.symm (AHeap.fresh_set (AHeap.fresh_set (by assumption)).2).1 | exact AHeap.ne_of (AHeap.fresh_set (by assumption)).2 (by assumption) | exact Ne.symm (AHeap.ne_of (AHeap.fresh_set (by assumption)).2 (by assumption)) | assumption | skip) | exact (AHeap.fresh_set (by assumption)).1 | exact Ne.symm (AHeap.fresh_set (by assumption)).1 | exact AHeap.ne_of (by assumption) (by assumption) | exact Ne.symm (AHeap.ne_of (by assumption) (by assumption)) | exact (AHeap.fresh_set (AHeap.fresh_set (by assumption)).2).1 | exact Ne.symm (AHeap.fresh_set (AHeap.fresh_set (by assumption)).2).1 | exact AHeap.ne_of (AHeap.fresh_set (by assumption)).2 (by assumption) | exact Ne.symm (AHeap.ne_of (AHeap.fresh_set (by assumption)).2 (by assumption)))); first | done | fail) rfl rfl rfl (by rfl) rfl ?_)
      | refine S.skip rfl ?_
      | refine S.skip0 rfl ?_
      | refine S.seq ?_
      | refine S.region ?_
      | refine S.regionT ?_
      | refine S.tstep ?_
      | refine S.talt ?_ ?_
      | exact S.tstop
      | refine S.tdone ?_
      | refine S.condT rfl ?_
      | refine S.condF rfl ?_
      | refine RRun.skip ?_
      | refine RRun.block ?_
      | refine RRun.inBlock ?_
      | refine RRun.exit rfl ?_)
    exact S.keep [0] rfl (hk h hg fun j hj => ha j hj (by omega))
  | succ m ih =>
    intro i h hi hg ha
    have hie : i < l.length := by omega
    have h1 : (l.map Entry.cells)[((i : Nat) : Int).toNat]? = some l[i].cells := by simp [hie]
    have hlen0 : (l.map Entry.cells).length = l.length := by simp
    have h2 := len_bytes l[i].data
    refine RRun.inLoop ?_
    repeat' (first
      | refine S.nilK ?_
      | (refine S.op rfl ?_; first
        | refine R.indexAddr rfl rfl (by omega) h1 ?_
        | refine R.mv rfl ?_
        | refine R.fieldAddr rfl ?_
        | refine R.fieldAddrR rfl ?_
        | refine R.nilCheck rfl ?_
        | refine R.nilCheckR rfl ?_
        | refine R.loadR rfl rfl ?_
        | refine R.load (by decide) rfl (by (repeat' (first | assumption | exact AHeap.set_same _ _ _ | refine AHeap.get_fresh (by assumption) ?_ | (refine (AHeap.set_other _ _ ?_).trans ?_; first | exact (AHeap.fresh_set (by assumption)).1 | exact Ne.symm (AHeap.fresh_set (by assumption)).1 | exact AHeap.ne_of (by assumption) (by assumption) | exact Ne.symm (AHeap.ne_of (by assumption) (by assumption)) | exact (AHeap.fresh_set (AHeap.fresh_set (by assumption)).2).1 | exact Ne.symm (AHeap.fresh_set (AHeap.fresh_set (by assumption)).2).1 | exact AHeap.ne_of (AHeap.fresh_set (by assumption)).2 (by assumption) | exact Ne.symm (AHeap.ne_of (AHeap.fresh_set (by assumption)).2 (by assumption)) | assumption | skip) | exact (AHeap.fresh_set (by assumption)).1 | exact Ne.symm (AHeap.fresh_set (by assumption)).1 | exact AHeap.ne_of (by assumption) (by assumption) | exact Ne.symm (AHeap.ne_of (by assumption) (by assumption)) | exact (AHeap.fresh_set (AHeap.fresh_set (by assumption)).2).1 | exact Ne.symm (AHeap.fresh_set (AHeap.fresh_set (by assumption)).2).1 | exact AHeap.ne_of (AHeap.fresh_set (by assumption)).2 (by assumption) | exact Ne.symm (AHeap.ne_of (AHeap.fresh_set (by assumption)).2 (by assumption)))); first | done | fail) rfl ?_
        | refine S.addI rfl rfl (by omega) ?_
        | refine S.subI rfl rfl (by omega) ?_
        | refine S.addU rfl rfl ?_
        | refine S.subU rfl rfl ?_
        | refine S.addUc rfl (by decide) ?_
        | refine S.subUc rfl (by decide) ?_
        | refine S.arith rfl rfl rfl ?_
        | refine R.pickT rfl rfl ?_
        | refine R.pickF rfl rfl ?_
        | refine R.len rfl ?_
        | refine R.lenA rfl ?_
        | refine R.lenStr rfl ?_
        | refine S.convIU rfl (by omega) ?_
        | refine S.convUI rfl (by omega) ?_
        | refine R.convInt rfl ?_
        | refine R.not rfl ?_
        | refine R.eqPtrNil rfl rfl ?_
        | refine R.extract rfl rfl ?_
        | refine R.field rfl rfl ?_
        | refine R.alloc rfl (fun b hb => ?_)
        | refine R.box rfl rfl rfl (fun b hb => ?_)
        | refine R.build rfl rfl ?_
        | refine R.buildSl rfl rfl rfl (by decide) ?_
        | refine R.toStr rfl ?_
        | refine R.convStr rfl ?_
        | refine R.minmax rfl ?_
        | refine R.makeFunc rfl rfl ?_
        | (first | refine S.lss rfl rfl (fun hlt => ?_) (fun hlt => by exfalso; omega) | refine S.lss rfl rfl (fun hlt => by exfalso; omega) (fun hlt => ?_) | refine S.lss rfl rfl (fun hlt => ?_) (fun hlt => ?_))
        | (first | refine S.gtr rfl rfl (fun hlt => ?_) (fun hlt => by exfalso; omega) | refine S.gtr rfl rfl (fun hlt => by exfalso; omega) (fun hlt => ?_) | refine S.gtr rfl rfl (fun hlt => ?_) (fun hlt => ?_))
        | (first | refine S.leq rfl rfl (fun hlt => ?_) (fun hlt => by exfalso; omega) | refine S.leq rfl rfl (fun hlt => by exfalso; omega) (fun hlt => ?_) | refine S.leq rfl rfl (fun hlt => ?_) (fun hlt => ?_))
        | (first | refine S.geq rfl rfl (fun hlt => ?_) (fun hlt => by exfalso; omega) | refine S.geq rfl rfl (fun hlt => by exfalso; omega) (fun hlt => ?_) | refine S.geq rfl rfl (fun hlt => ?_) (fun hlt => ?_))
        | (first | refine S.eqInt rfl rfl (fun hlt => ?_) (fun hlt => by exfalso; omega) | refine S.eqInt rfl rfl (fun hlt => by exfalso; omega) (fun hlt => ?_) | refine S.eqInt rfl rfl (fun hlt => ?_) (fun hlt => ?_)))
      | (refine S.op0 rfl ?_; first | refine S.storeS rfl rfl rfl (by rfl) rfl (by first | decide | exact Nat.le_refl _ | exact Nat.le_of_ble_eq_true rfl) ?_ | refine S.store rfl rfl (by (repeat' (first | assumption | exact AHeap.set_same _ _ _ | refine AHeap.get_fresh (by assumption) ?_ | (refine (AHeap.set_other _ _ ?_).trans ?_; first | exact (AHeap.fresh_set (by assumption)).1 | exact Ne.symm (AHeap.fresh_set (by assumption)).1 | exact AHeap.ne_of (by assumption) (by assumption) | exact Ne.symm (AHeap.ne_of (by assumption) (by assumption)) | exact (AHeap.fresh_set (AHeap.fresh_set (by assumption)).2).1 | exact Ne.symm (AHeap.fresh_set (AHeap.fresh_set (by assumption)).2).1 | exact AHeap.ne_of (AHeap.fresh_set (by assumption)).2 (by assumption) | exact Ne.symm (AHeap.ne_of (AHeap.fresh_set (by assumption)).2 (by assumption)) | assumption | skip) | exact (AHeap.fresh_set (by assumption)).1 | exact Ne.symm (AHeap.fresh_set (by assumption)).1 | exact AHeap.ne_of (by assumption) (by assumption) | exact Ne.symm (AHeap.ne_of (by assumption) (by assumption)) | exact (AHeap.fresh_set (AHeap.fresh_set (by assumption)).2).1 | exact Ne.symm (AHeap.fresh_set (AHeap.fresh_set (by assumption)).2).1 | exact AHeap.ne_of (AHeap.fresh_set (by assumption)).2 (by assumption) | exact Ne.symm (AHeap.ne_of (AHeap.fresh_set (by assumption)).2 (by assumption)))); first | done | fail) rfl rfl rfl (by rfl) rfl ?_)
      | refine S.skip rfl ?_
      | refine S.skip0 rfl ?_
      | refine S.seq ?_
      | refine S.region ?_
      | refine S.regionT ?_
      | refine S.tstep ?_
      | refine S.talt ?_ ?_
      | exact S.tstop
      | refine S.tdone ?_
      | refine S.condT rfl ?_
      | refine S.condF rfl ?_
      | refine RRun.skip ?_
      | refine RRun.block ?_
      | refine RRun.inBlock ?_
      | refine RRun.exit rfl ?_)
    ·
      apply S.ret rr18
      case hx => repeat (first | exact ResAt.nil | apply ResAt.tmp rfl | apply ResAt.cellA rfl (by (repeat' (first | assumption | exact AHeap.set_same _ _ _ | refine AHeap.get_fresh (by assumption) ?_ | (refine (AHeap.set_other _ _ ?_).trans ?_; first | exact (AHeap.fresh_set (by assumption)).1 | exact Ne.symm (AHeap.fresh_set (by assumption)).1 | exact AHeap.ne_of (by assumption) (by assumption) | exact Ne.symm (AHeap.ne_of (by assumption) (by assumption)) | exact (AHeap.fresh_set (AHeap.fresh_set (by assumption)).2).1 | exact Ne.symm (AHeap.fresh_set (AHeap.fresh_set (by assumption)).2).1 | exact AHeap.ne_of (AHeap.fresh_set (by assumption)).2 (by assumption) | exact Ne.symm (AHeap.ne_of (AHeap.fresh_set (by assumption)).2 (by assumption)) | assumption | skip) | exact (AHeap.fresh_set (by assumption)).1 | exact Ne.symm (AHeap.fresh_set (by assumption)).1 | exact AHeap.ne_of (by assumption) (by assumption) | exact Ne.symm (AHeap.ne_of (by assumption) (by assumption)) | exact (AHeap.fresh_set (AHeap.fresh_set (by assumption)).2).1 | exact Ne.symm (AHeap.fresh_set (AHeap.fresh_set (by assumption)).2).1 | exact AHeap.ne_of (AHeap.fresh_set (by assumption)).2 (by assumption) | exact Ne.symm (AHeap.ne_of (AHeap.fresh_set (by assumption)).2 (by assumption)))); first | done | fail) (by rfl) | apply ResAt.cell1 rfl (by (repeat' (first | assumption | exact AHeap.set_same _ _ _ | refine AHeap.get_fresh (by assumption) ?_ | (refine (AHeap.set_other _ _ ?_).trans ?_; first | exact (AHeap.fresh_set (by assumption)).1 | exact Ne.symm (AHeap.fresh_set (by assumption)).1 | exact AHeap.ne_of (by assumption) (by assumption) | exact Ne.symm (AHeap.ne_of (by assumption) (by assumption)) | exact (AHeap.fresh_set (AHeap.fresh_set (by assumption)).2).1 | exact Ne.symm (AHeap.fresh_set (AHeap.fresh_set (by assumption)).2).1 | exact AHeap.ne_of (AHeap.fresh_set (by assumption)).2 (by assumption) | exact Ne.symm (AHeap.ne_of (AHeap.fresh_set (by assumption)).2 (by assumption)) | assumption | skip) | exact (AHeap.fresh_set (by assumption)).1 | exact Ne.symm (AHeap.fresh_set (by assumption)).1 | exact AHeap.ne_of (by assumption) (by assumption) | exact Ne.symm (AHeap.ne_of (by assumption) (by assumption)) | exact (AHeap.fresh_set (AHeap.fresh_set (by assumption)).2).1 | exact Ne.symm (AHeap.fresh_set (AHeap.fresh_set (by assumption)).2).1 | exact AHeap.ne_of (AHeap.fresh_set (by assumption)).2 (by assumption) | exact Ne.symm (AHeap.ne_of (AHeap.fresh_set (by assumption)).2 (by assumption)))); first | done | fail) (by rfl))
      refine ⟨_, _, .refl _, hg.set _ (hg.none (by assumption)), ?_, rfl⟩
      rw [small_take l i hie (by omega)]; rfl
    · rw [show ((i : Int) + 1) = ((i + 1 : Nat) : Int) by omega]
      refine S.keep [7, 6, 5, 0] rfl (ih (i + 1) _ (by omega) (hg.set _ (hg.none (by assumption))) ?_)
      intro j hj hlt'
      by_cases e : j = i
      · subst e; omega
      · exact ha j hj (by omega)

theorem small_spec (l : List Entry) (hl : l.length ≤ 9223372036854775807) (h : AHeap) : ACalls Tryz.prog 18 [entries l] h (fun x h' => x = bl (small l) ∧ h' = h) := by
  have hlen : (l.map Entry.cells).length = l.length := by simp
  obtain ⟨c, hc1, hc2⟩ := res18
  refine ACalls.weak (ACalls.enter Tryz.func18 hc1 Tryz.ntmps18 hc2 (Nat.le_of_ble_eq_true rfl) rfl ?_)
  repeat' (first
    | refine S.nilK ?_
    | (refine S.op rfl ?_; first
      | refine R.mv rfl ?_
      | refine R.fieldAddr rfl ?_
      | refine R.fieldAddrR rfl ?_
      | refine R.nilCheck rfl ?_
      | refine R.nilCheckR rfl ?_
      | refine R.loadR rfl rfl ?_
      | refine R.load (by decide) rfl (by (repeat' (first | assumption | exact AHeap.set_same _ _ _ | refine AHeap.get_fresh (by assumption) ?_ | (refine (AHeap.set_other _ _ ?_).trans ?_; first | exact (AHeap.fresh_set (by assumption)).1 | exact Ne.symm (AHeap.fresh_set (by assumption)).1 | exact AHeap.ne_of (by assumption) (by assumption) | exact Ne.symm (AHeap.ne_of (by assumption) (by assumption)) | exact (AHeap.fresh_set (AHeap.fresh_set (by assumption)).2).1 | exact Ne.symm (AHeap.fresh_set (AHeap.fresh_set (by assumption)).2).1 | exact AHeap.ne_of (AHeap.fresh_set (by assumption)).2 (by assumption) | exact Ne.symm (AHeap.ne_of (AHeap.fresh_set (by assumption)).2 (by assumption)) | assumption | skip) | exact (AHeap.fresh_set (by assumption)).1 | exact Ne.symm (AHeap.fresh_set (by assumption)).1 | exact AHeap.ne_of (by assumption) (by assumption) | exact Ne.symm (AHeap.ne_of (by assumption) (by assumption)) | exact (AHeap.fresh_set (AHeap.fresh_set (by assumption)).2).1 | exact Ne.symm (AHeap.fresh_set (AHeap.fresh_set (by assumption)).2).1 | exact AHeap.ne_of (AHeap.fresh_set (by assumption)).2 (by assumption) | exact Ne.symm (AHeap.ne_of (AHeap.fresh_set (by assumption)).2 (by assumption)))); first | done | fail) rfl ?_
      | refine S.addI rfl rfl (by omega) ?_
      | refine S.subI rfl rfl (by omega) ?_
      | refine S.addU rfl rfl ?_
      | refine S.subU rfl rfl ?_
      | refine S.addUc rfl (by decide) ?_
      | refine S.subUc rfl (by decide) ?_
      | refine S.arith rfl rfl rfl ?_
      | refine R.pickT rfl rfl ?_
      | refine R.pickF rfl rfl ?_
      | refine R.len rfl ?_
      | refine R.lenA rfl ?_
      | refine R.lenStr rfl ?_
      | refine S.convIU rfl (by omega) ?_
      | refine S.convUI rfl (by omega) ?_
      | refine R.convInt rfl ?_
      | refine R.not rfl ?_
      | refine R.eqPtrNil rfl rfl ?_
      | refine R.extract rfl rfl ?_
      | refine R.field rfl rfl ?_
      | refine R.alloc rfl (fun b hb => ?_)
      | refine R.box rfl rfl rfl (fun b hb => ?_)
      | refine R.build rfl rfl ?_
      | refine R.buildSl rfl rfl rfl (by decide) ?_
      | refine R.toStr rfl ?_
      | refine R.convStr rfl ?_
      | refine R.minmax rfl ?_
      | refine R.makeFunc rfl rfl ?_
      | (first | refine S.lss rfl rfl (fun hlt => ?_) (fun hlt => by exfalso; omega) | refine S.lss rfl rfl (fun hlt => by exfalso; omega) (fun hlt => ?_) | refine S.lss rfl rfl (fun hlt => ?_) (fun hlt => ?_))
      | (first | refine S.gtr rfl rfl (fun hlt => ?_) (fun hlt => by exfalso; omega) | refine S.gtr rfl rfl (fun hlt => by exfalso; omega) (fun hlt => ?_) | refine S.gtr rfl rfl (fun hlt => ?_) (fun hlt => ?_))
      | (first | refine S.leq rfl rfl (fun hlt => ?_) (fun hlt => by exfalso; omega) | refine S.leq rfl rfl (fun hlt => by exfalso; omega) (fun hlt => ?_) | refine S.leq rfl rfl (fun hlt => ?_) (fun hlt => ?_))
      | (first | refine S.geq rfl rfl (fun hlt => ?_) (fun hlt => by exfalso; omega) | refine S.geq rfl rfl (fun hlt => by exfalso; omega) (fun hlt => ?_) | refine S.geq rfl rfl (fun hlt => ?_) (fun hlt => ?_))
      | (first | refine S.eqInt rfl rfl (fun hlt => ?_) (fun hlt => by exfalso; omega) | refine S.eqInt rfl rfl (fun hlt => by exfalso; omega) (fun hlt => ?_) | refine S.eqInt rfl rfl (fun hlt => ?_) (fun hlt => ?_)))
    | (refine S.op0 rfl ?_; first | refine S.storeS rfl rfl rfl (by rfl) rfl (by first | decide | exact Nat.le_refl _ | exact Nat.le_of_ble_eq_true rfl) ?_ | refine S.store rfl rfl (by (repeat' (first | assumption | exact AHeap.set_same _ _ _ | refine AHeap.get_fresh (by assumption) ?_ | (refine (AHeap.set_other _ _ ?_).trans ?_; first | exact (AHeap.fresh_set (by assumption)).1 | exact Ne.symm (AHeap.fresh_set (by assumption)).1 | exact AHeap.ne_of (by assumption) (by assumption) | exact Ne.symm (AHeap.ne_of (by assumption) (by assumption)) | exact (AHeap.fresh_set (AHeap.fresh_set (by assumption)).2).1 | exact Ne.symm (AHeap.fresh_set (AHeap.fresh_set (by assumption)).2).1 | exact AHeap.ne_of (AHeap.fresh_set (by assumption)).2 (by assumption) | exact Ne.symm (AHeap.ne_of (AHeap.fresh_set (by assumption)).2 (by assumption)) | assumption | skip) | exact (AHeap.fresh_set (by assumption)).1 | exact Ne.symm (AHeap.fresh_set (by assumption)).1 | exact AHeap.ne_of (by assumption) (by assumption) | exact Ne.symm (AHeap.ne_of (by assumption) (by assumption)) | exact (AHeap.fresh_set (AHeap.fresh_set (by assumption)).2).1 | exact Ne.symm (AHeap.fresh_set (AHeap.fresh_set (by assumption)).2).1 | exact AHeap.ne_of (AHeap.fresh_set (by assumption)).2 (by assumption) | exact Ne.symm (AHeap.ne_of (AHeap.fresh_set (by assumption)).2 (by assumption)))); first | done | fail) rfl rfl rfl (by rfl) rfl ?_)
    | refine S.skip rfl ?_
    | refine S.skip0 rfl ?_
    | refine S.seq ?_
    | refine S.region ?_
    | refine S.regionT ?_
    | refine S.tstep ?_
    | refine S.talt ?_ ?_
    | exact S.tstop
    | refine S.tdone ?_
    | refine S.condT rfl ?_
    | refine S.condF rfl ?_
    | refine RRun.skip ?_
    | refine RRun.block ?_
    | refine RRun.inBlock ?_
    | refine RRun.exit rfl ?_)
  rw [hlen]
  refine RRun.loopIn (S.keep [7, 6, 5, 0] rfl ?_)
  refine small_loop l hl h _ ?_ l.length 0 h (by omega) (.refl h) (fun j _ hj => absurd hj (Nat.not_lt_zero _))
  intro h' hle hall
  have ha : (l.all fun e => decide (e.data.length ≤ 100)) = true := by
    simp only [List.all_eq_true, decide_eq_true_eq]
    intro x hx
    obtain ⟨j, hj, rfl⟩ := List.getElem_of_mem hx
    exact hall j hj
  repeat' (first
    | refine S.nilK ?_
    | (refine S.op rfl ?_; first
      | refine R.mv rfl ?_
      | refine R.fieldAddr rfl ?_
      | refine R.fieldAddrR rfl ?_
      | refine R.nilCheck rfl ?_
      | refine R.nilCheckR rfl ?_
      | refine R.loadR rfl rfl ?_
      | refine R.load (by decide) rfl (by (repeat' (first | assumption | exact AHeap.set_same _ _ _ | refine AHeap.get_fresh (by assumption) ?_ | (refine (AHeap.set_other _ _ ?_).trans ?_; first | exact (AHeap.fresh_set (by assumption)).1 | exact Ne.symm (AHeap.fresh_set (by assumption)).1 | exact AHeap.ne_of (by assumption) (by assumption) | exact Ne.symm (AHeap.ne_of (by assumption) (by assumption)) | exact (AHeap.fresh_set (AHeap.fresh_set (by assumption)).2).1 | exact Ne.symm (AHeap.fresh_set (AHeap.fresh_set (by assumption)).2).1 | exact AHeap.ne_of (AHeap.fresh_set (by assumption)).2 (by assumption) | exact Ne.symm (AHeap.ne_of (AHeap.fresh_set (by assumption)).2 (by assumption)) | assumption | skip) | exact (AHeap.fresh_set (by assumption)).1 | exact Ne.symm (AHeap.fresh_set (by assumption)).1 | exact AHeap.ne_of (by assumption) (by assumption) | exact Ne.symm (AHeap.ne_of (by assumption) (by assumption)) | exact (AHeap.fresh_set (AHeap.fresh_set (by assumption)).2).1 | exact Ne.symm (AHeap.fresh_set (AHeap.fresh_set (by assumption)).2).1 | exact AHeap.ne_of (AHeap.fresh_set (by assumption)).2 (by assumption) | exact Ne.symm (AHeap.ne_of (AHeap.fresh_set (by assumption)).2 (by assumption)))); first | done | fail) rfl ?_
      | refine S.addI rfl rfl (by omega) ?_
      | refine S.subI rfl rfl (by omega) ?_
      | refine S.addU rfl rfl ?_
      | refine S.subU rfl rfl ?_
      | refine S.addUc rfl (by decide) ?_
      | refine S.subUc rfl (by decide) ?_
      | refine S.arith rfl rfl rfl ?_
      | refine R.pickT rfl rfl ?_
      | refine R.pickF rfl rfl ?_
      | refine R.len rfl ?_
      | refine R.lenA rfl ?_
      | refine R.lenStr rfl ?_
      | refine S.convIU rfl (by omega) ?_
      | refine S.convUI rfl (by omega) ?_
      | refine R.convInt rfl ?_
      | refine R.not rfl ?_
      | refine R.eqPtrNil rfl rfl ?_
      | refine R.extract rfl rfl ?_
      | refine R.field rfl rfl ?_
      | refine R.alloc rfl (fun b hb => ?_)
      | refine R.box rfl rfl rfl (fun b hb => ?_)
      | refine R.build rfl rfl ?_
      | refine R.buildSl rfl rfl rfl (by decide) ?_
      | refine R.toStr rfl ?_
      | refine R.convStr rfl ?_
      | refine R.minmax rfl ?_
      | refine R.makeFunc rfl rfl ?_
      | (first | refine S.lss rfl rfl (fun hlt => ?_) (fun hlt => by exfalso; omega) | refine S.lss rfl rfl (fun hlt => by exfalso; omega) (fun hlt => ?_) | refine S.lss rfl rfl (fun hlt => ?_) (fun hlt => ?_))
      | (first | refine S.gtr rfl rfl (fun hlt => ?_) (fun hlt => by exfalso; omega) | refine S.gtr rfl rfl (fun hlt => by exfalso; omega) (fun hlt => ?_) | refine S.gtr rfl rfl (fun hlt => ?_) (fun hlt => ?_))
      | (first | refine S.leq rfl rfl (fun hlt => ?_) (fun hlt => by exfalso; omega) | refine S.leq rfl rfl (fun hlt => by exfalso; omega) (fun hlt => ?_) | refine S.leq rfl rfl (fun hlt => ?_) (fun hlt => ?_))
      | (first | refine S.geq rfl rfl (fun hlt => ?_) (fun hlt => by exfalso; omega) | refine S.geq rfl rfl (fun hlt => by exfalso; omega) (fun hlt => ?_) | refine S.geq rfl rfl (fun hlt => ?_) (fun hlt => ?_))
      | (first | refine S.eqInt rfl rfl (fun hlt => ?_) (fun hlt => by exfalso; omega) | refine S.eqInt rfl rfl (fun hlt => by exfalso; omega) (fun hlt => ?_) | refine S.eqInt rfl rfl (fun hlt => ?_) (fun hlt => ?_)))
    | (refine S.op0 rfl ?_; first | refine S.storeS rfl rfl rfl (by rfl) rfl (by first | decide | exact Nat.le_refl _ | exact Nat.le_of_ble_eq_true rfl) ?_ | refine S.store rfl rfl (by (repeat' (first | assumption | exact AHeap.set_same _ _ _ | refine AHeap.get_fresh (by assumption) ?_ | (refine (AHeap.set_other _ _ ?_).trans ?_; first | exact (AHeap.fresh_set (by assumption)).1 | exact Ne.symm (AHeap.fresh_set (by assumption)).1 | exact AHeap.ne_of (by assumption) (by assumption) | exact Ne.symm (AHeap.ne_of (by assumption) (by assumption)) | exact (AHeap.fresh_set (AHeap.fresh_set (by assumption)).2).1 | exact Ne.symm (AHeap.fresh_set (AHeap.fresh_set (by assumption)).2).1 | exact AHeap.ne_of (AHeap.fresh_set (by assumption)).2 (by assumption) | exact Ne.symm (AHeap.ne_of (AHeap.fresh_set (by assumption)).2 (by assumption)) | assumption | skip) | exact (AHeap.fresh_set (by assumption)).1 | exact Ne.symm (AHeap.fresh_set (by assumption)).1 | exact AHeap.ne_of (by assumption) (by assumption) | exact Ne.symm (AHeap.ne_of (by assumption) (by assumption)) | exact (AHeap.fresh_set (AHeap.fresh_set (by assumption)).2).1 | exact Ne.symm (AHeap.fresh_set (AHeap.fresh_set (by assumption)).2).1 | exact AHeap.ne_of (AHeap.fresh_set (by assumption)).2 (by assumption) | exact Ne.symm (AHeap.ne_of (AHeap.fresh_set (by assumption)).2 (by assumption)))); first | done | fail) rfl rfl rfl (by rfl) rfl ?_)
    | refine S.skip rfl ?_
    | refine S.skip0 rfl ?_
    | refine S.seq ?_
    | refine S.region ?_
    | refine S.regionT ?_
    | refine S.tstep ?_
    | refine S.talt ?_ ?_
    | exact S.tstop
    | refine S.tdone ?_
    | refine S.condT rfl ?_
    | refine S.condF rfl ?_
    | refine RRun.skip ?_
    | refine RRun.block ?_
    | refine RRun.inBlock ?_
    | refine RRun.exit rfl ?_)
  ·
    apply S.ret rr18
    case hx => repeat (first | exact ResAt.nil | apply ResAt.tmp rfl | apply ResAt.cellA rfl (by (repeat' (first | assumption | exact AHeap.set_same _ _ _ | refine AHeap.get_fresh (by assumption) ?_ | (refine (AHeap.set_other _ _ ?_).trans ?_; first | exact (AHeap.fresh_set (by assumption)).1 | exact Ne.symm (AHeap.fresh_set (by assumption)).1 | exact AHeap.ne_of (by assumption) (by assumption) | exact Ne.symm (AHeap.ne_of (by assumption) (by assumption)) | exact (AHeap.fresh_set (AHeap.fresh_set (by assumption)).2).1 | exact Ne.symm (AHeap.fresh_set (AHeap.fresh_set (by assumption)).2).1 | exact AHeap.ne_of (AHeap.fresh_set (by assumption)).2 (by assumption) | exact Ne.symm (AHeap.ne_of (AHeap.fresh_set (by assumption)).2 (by assumption)) | assumption | skip) | exact (AHeap.fresh_set (by assumption)).1 | exact Ne.symm (AHeap.fresh_set (by assumption)).1 | exact AHeap.ne_of (by assumption) (by assumption) | exact Ne.symm (AHeap.ne_of (by assumption) (by assumption)) | exact (AHeap.fresh_set (AHeap.fresh_set (by assumption)).2).1 | exact Ne.symm (AHeap.fresh_set (AHeap.fresh_set (by assumption)).2).1 | exact AHeap.ne_of (AHeap.fresh_set (by assumption)).2 (by assumption) | exact Ne.symm (AHeap.ne_of (AHeap.fresh_set (by assumption)).2 (by assumption)))); first | done | fail) (by rfl) | apply ResAt.cell1 rfl (by (repeat' (first | assumption | exact AHeap.set_same _ _ _ | refine AHeap.get_fresh (by assumption) ?_ | (refine (AHeap.set_other _ _ ?_).trans ?_; first | exact (AHeap.fresh_set (by assumption)).1 | exact Ne.symm (AHeap.fresh_set (by assumption)).1 | exact AHeap.ne_of (by assumption) (by assumption) | exact Ne.symm (AHeap.ne_of (by assumption) (by assumption)) | exact (AHeap.fresh_set (AHeap.fresh_set (by assumption)).2).1 | exact Ne.symm (AHeap.fresh_set (AHeap.fresh_set (by assumption)).2).1 | exact AHeap.ne_of (AHeap.fresh_set (by assumption)).2 (by assumption) | exact Ne.symm (AHeap.ne_of (AHeap.fresh_set (by assumption)).2 (by assumption)) | assumption | skip) | exact (AHeap.fresh_set (by assumption)).1 | exact Ne.symm (AHeap.fresh_set (by assumption)).1 | exact AHeap.ne_of (by assumption) (by assumption) | exact Ne.symm (AHeap.ne_of (by assumption) (by assumption)) | exact (AHeap.fresh_set (AHeap.fresh_set (by assumption)).2).1 | exact Ne.symm (AHeap.fresh_set (AHeap.fresh_set (by assumption)).2).1 | exact AHeap.ne_of (AHeap.fresh_set (by assumption)).2 (by assumption) | exact Ne.symm (AHeap.ne_of (AHeap.fresh_set (by assumption)).2 (by assumption)))); first | done | fail) (by rfl))
    refine ⟨_, _, .refl _, hle, ?_, rfl⟩
    rw [small, ha, decide_eq_true (show l.length ≤ 12 by omega)]; rfl
  ·
    apply S.ret rr18
    case hx => repeat (first | exact ResAt.nil | apply ResAt.tmp rfl | apply ResAt.cellA rfl (by (repeat' (first | assumption | exact AHeap.set_same _ _ _ | refine AHeap.get_fresh (by assumption) ?_ | (refine (AHeap.set_other _ _ ?_).trans ?_; first | exact (AHeap.fresh_set (by assumption)).1 | exact Ne.symm (AHeap.fresh_set (by assumption)).1 | exact AHeap.ne_of (by assumption) (by assumption) | exact Ne.symm (AHeap.ne_of (by assumption) (by assumption)) | exact (AHeap.fresh_set (AHeap.fresh_set (by assumption)).2).1 | exact Ne.symm (AHeap.fresh_set (AHeap.fresh_set (by assumption)).2).1 | exact AHeap.ne_of (AHeap.fresh_set (by assumption)).2 (by assumption) | exact Ne.symm (AHeap.ne_of (AHeap.fresh_set (by assumption)).2 (by assumption)) | assumption | skip) | exact (AHeap.fresh_set (by assumption)).1 | exact Ne.symm (AHeap.fresh_set (by assumption)).1 | exact AHeap.ne_of (by assumption) (by assumption) | exact Ne.symm (AHeap.ne_of (by assumption) (by assumption)) | exact (AHeap.fresh_set (AHeap.fresh_set (by assumption)).2).1 | exact Ne.symm (AHeap.fresh_set (AHeap.fresh_set (by assumption)).2).1 | exact AHeap.ne_of (AHeap.fresh_set (by assumption)).2 (by assumption) | exact Ne.symm (AHeap.ne_of (AHeap.fresh_set (by assumption)).2 (by assumption)))); first | done | fail) (by rfl) | apply ResAt.cell1 rfl (by (repeat' (first | assumption | exact AHeap.set_same _ _ _ | refine AHeap.get_fresh (by assumption) ?_ | (refine (AHeap.set_other _ _ ?_).trans ?_; first | exact (AHeap.fresh_set (by assumption)).1 | exact Ne.symm (AHeap.fresh_set (by assumption)).1 | exact AHeap.ne_of (by assumption) (by assumption) | exact Ne.symm (AHeap.ne_of (by assumption) (by assumption)) | exact (AHeap.fresh_set (AHeap.fresh_set (by assumption)).2).1 | exact Ne.symm (AHeap.fresh_set (AHeap.fresh_set (by assumption)).2).1 | exact AHeap.ne_of (AHeap.fresh_set (by assumption)).2 (by assumption) | exact Ne.symm (AHeap.ne_of (AHeap.fresh_set (by assumption)).2 (by assumption)) | assumption | skip) | exact (AHeap.fresh_set (by assumption)).1 | exact Ne.symm (AHeap.fresh_set (by assumption)).1 | exact AHeap.ne_of (by assumption) (by assumption) | exact Ne.symm (AHeap.ne_of (by assumption) (by assumption)) | exact (AHeap.fresh_set (AHeap.fresh_set (by assumption)).2).1 | exact Ne.symm (AHeap.fresh_set (AHeap.fresh_set (by assumption)).2).1 | exact AHeap.ne_of (AHeap.fresh_set (by assumption)).2 (by assumption) | exact Ne.symm (AHeap.ne_of (AHeap.fresh_set (by assumption)).2 (by assumption)))); first | done | fail) (by rfl))
    refine ⟨_, _, .refl _, hle, ?_, rfl⟩
    rw [small, ha, decide_eq_false (show ¬ l.length ≤ 12 by omega)]; rfl


/-! ### Inputs that are small -/

def r5l0 : RCode :=
  (.seq (.region [
    ⟨(some 8), none, .act, .bin .lss (.tmp 7) (.tmp 6)⟩])
  (.seq (.cond (.tmp 8)
   .skip
   (.exit 0))
  (.seq (.block 1
   (.seq (.region [
     ⟨(some 9), none, .act, .indexAddr 19 (.tmp 5) (.tmp 7)⟩,
     ⟨(some 10), none, .act, .load true 19 (.tmp 9)⟩,
     ⟨(some 4), none, .act, .alloc [(.int .i64 0), (.int .u64 0), (.int .i64 0), (.int .u64 0), (.int .u64 0), (.int .u64 0), (.int .u64 0), (.int .u64 0), (.int .u64 0), (.int .u64 0), (.bool false), (.slice none 0 0), (.int .u64 0), (.int .u64 0), (.slice none 0 0), (.slice none 0 0), (.slice none 0 0), (.slice none 0 0), (.int .u64 0)]⟩,
     ⟨none, none, .act, .store 19 (.tmp 4) (.tmp 10)⟩])
   (.seq (.region [
     ⟨(some 11), none, .act, .fieldAddr 2 (.tmp 4)⟩,
     ⟨(some 12), none, .act, .fieldAddr 9 (.tmp 11)⟩,
     ⟨(some 13), none, .act, .load false 1 (.tmp 12)⟩,
     ⟨(some 14), none, .act, .call 18 [(.tmp 13)]⟩,
     ⟨(some 15), none, .act, .un .not (.tmp 14)⟩,
     ⟨(some 16), none, .act, .mv (.tmp 15)⟩,
     ⟨(some 17), (some (16, false)), .act, .fieldAddr 2 (.tmp 4)⟩,
     ⟨(some 18), (some (16, false)), .act, .fieldAddr 10 (.tmp 17)⟩,
     ⟨(some 19), (some (16, false)), .act, .load true 4 (.tmp 18)⟩,
     ⟨(some 20), (some (16, false)), .act, .call 19 [(.tmp 19)]⟩,
     ⟨(some 21), (some (16, false)), .act, .un .not (.tmp 20)⟩,
     ⟨(some 22), none, .act, .pick (.tmp 16) (.const (.bool true)) (.tmp 21)⟩,
     ⟨(some 23), none, .act, .mv (.tmp 22)⟩,
     ⟨(some 24), (some (23, false)), .act, .fieldAddr 16 (.tmp 4)⟩,
     ⟨(some 25), (some (23, false)), .act, .load false 1 (.tmp 24)⟩,
     ⟨(some 26), (some (23, false)), .act, .len (.tmp 25)⟩,
     ⟨(some 27), (some (23, false)), .act, .bin .gtr (.tmp 26) (.const (.int .i64 5000))⟩,
     ⟨(some 28), none, .act, .pick (.tmp 23) (.const (.bool true)) (.tmp 27)⟩,
     ⟨(some 29), none, .act, .mv (.tmp 28)⟩,
     ⟨(some 30), (some (29, false)), .act, .fieldAddr 17 (.tmp 4)⟩,
     ⟨(some 31), (some (29, false)), .act, .load false 1 (.tmp 30)⟩,
     ⟨(some 32), (some (29, false)), .act, .len (.tmp 31)⟩,
     ⟨(some 33), (some (29, false)), .act, .bin .gtr (.tmp 32) (.const (.int .i64 12))⟩,
     ⟨(some 34), none, .act, .pick (.tmp 29) (.const (.bool true)) (.tmp 33)⟩])
   (.cond (.tmp 34)
    (.seq (.region [
      ⟨(some 2), none, .act, .mv (.const (.bool false))⟩])
    .ret)
    .skip))))
  (.region [
    ⟨(some 35), none, .act, .bin .add (.tmp 7) (.const (.int .i64 1))⟩,
    ⟨(some 7), none, .act, .mv (.tmp 35)⟩]))))
/-- plenum/plenumlaw09.small -/
def r5 : RCode :=
  (.seq (.region [
    ⟨(some 2), none, .act, .mv (.const (.bool false))⟩])
  (.seq (.seq (.region [
    ⟨(some 5), none, .act, .mv (.tmp 0)⟩,
    ⟨(some 6), none, .act, .len (.tmp 5)⟩,
    ⟨(some 7), none, .act, .mv (.const (.int .i64 0))⟩])
  (.block 0
   (.loop r5l0)))
  (.seq (.region [
    ⟨(some 36), none, .act, .mv (.tmp 0)⟩,
    ⟨(some 37), none, .act, .len (.tmp 36)⟩,
    ⟨(some 38), none, .act, .bin .leq (.tmp 37) (.const (.int .i64 40))⟩,
    ⟨(some 2), none, .act, .mv (.tmp 38)⟩])
  .ret)))
theorem res5 : ∃ c, Tryz.f5.body = some c ∧ resCode Tryz.prog 39 c = some r5 := ⟨_, rfl, by kernel_rfl⟩
theorem rr5 : resRes Tryz.prog Tryz.f5.results.toList = some [.tmp 2] := by kernel_rfl
theorem small5_spec (y : Inp) (hl : y.m.ents.length ≤ 9223372036854775807) (hd : y.data.length ≤ 9223372036854775807) (hm : y.members.length ≤ 9223372036854775807) (h : AHeap) : ACalls Tryz.prog 5 [.sl 19 [y.cells] .full] h (fun x h' => ∃ b, x = bl b ∧ h' = h) := by
  have c18 := small_spec y.m.ents hl
  have c19 := smallSnap_spec y.m.snap
  generalize small y.m.ents = b1 at c18
  generalize y.m.snap.small = b2 at c19
  have hgi : [y.cells][(0 : Int).toNat]? = some y.cells := rfl
  have h2 := len_bytes y.data
  have h3 : (y.members.map fun x => [u64 x]).length = y.members.length := by simp
  have h4 : [y.cells].length = 1 := rfl
  obtain ⟨c, hc1, hc2⟩ := res5
  refine ACalls.weak (ACalls.enter Tryz.func5 hc1 Tryz.ntmps5 hc2 (Nat.le_of_ble_eq_true rfl) rfl ?_)
  cases b1 with
  | false =>
    repeat' (first
      | (refine RRun.loopIn ?_)
      | (refine RRun.inLoop ?_)
      | refine S.nilK ?_
      | (refine S.op rfl ?_; first
        | refine R.indexAddr rfl rfl (by omega) hgi ?_
        | refine R.callQ (by decide) rfl (c18 _) ?_
        | refine R.callQ (by decide) rfl (c19 _) ?_
        | refine R.mv rfl ?_
        | refine R.fieldAddr rfl ?_
        | refine R.fieldAddrR rfl ?_
        | refine R.nilCheck rfl ?_
        | refine R.nilCheckR rfl ?_
        | refine R.loadR rfl rfl ?_
        | refine R.load (by decide) rfl (by (repeat' (first | assumption | exact AHeap.set_same _ _ _ | refine AHeap.get_fresh (by assumption) ?_ | (refine (AHeap.set_other _ _ ?_).trans ?_; first | exact (AHeap.fresh_set (by assumption)).1 | exact Ne.symm (AHeap.fresh_set (by assumption)).1 | exact AHeap.ne_of (by assumption) (by assumption) | exact Ne.symm (AHeap.ne_of (by assumption) (by assumption)) | exact (AHeap.fresh_set (AHeap.fresh_set (by assumption)).2).1 | exact Ne.symm (AHeap.fresh_set (AHeap.fresh_set (by assumption)).2).1 | exact AHeap.ne_of (AHeap.fresh_set (by assumption)).2 (by assumption) | exact Ne.symm (AHeap.ne_of (AHeap.fresh_set (by assumption)).2 (by assumption)) | assumption | skip) | exact (AHeap.fresh_set (by assumption)).1 | exact Ne.symm (AHeap.fresh_set (by assumption)).1 | exact AHeap.ne_of (by assumption) (by assumption) | exact Ne.symm (AHeap.ne_of (by assumption) (by assumption)) | exact (AHeap.fresh_set (AHeap.fresh_set (by assumption)).2).1 | exact Ne.symm (AHeap.fresh_set (AHeap.fresh_set (by assumption)).2).1 | exact AHeap.ne_of (AHeap.fresh_set (by assumption)).2 (by assumption) | exact Ne.symm (AHeap.ne_of (AHeap.fresh_set (by assumption)).2 (by assumption)))); first | done | fail) rfl ?_
        | refine S.addI rfl rfl (by omega) ?_
        | refine S.subI rfl rfl (by omega) ?_
        | refine S.addU rfl rfl ?_
        | refine S.subU rfl rfl ?_
        | refine S.addUc rfl (by decide) ?_
        | refine S.subUc rfl (by decide) ?_
        | refine S.arith rfl rfl rfl ?_
        | refine R.pickT rfl rfl ?_
        | refine R.pickF rfl rfl ?_
        | refine R.len rfl ?_
        | refine R.lenA rfl ?_
        | refine R.lenStr rfl ?_
        | refine S.convIU rfl (by omega) ?_
        | refine S.convUI rfl (by omega) ?_
        | refine R.convInt rfl ?_
        | refine R.not rfl ?_
        | refine R.eqPtrNil rfl rfl ?_
        | refine R.extract rfl rfl ?_
        | refine R.field rfl rfl ?_
        | refine R.alloc rfl (fun b hb => ?_)
        | refine R.box rfl rfl rfl (fun b hb => ?_)
        | refine R.build rfl rfl ?_
        | refine R.buildSl rfl rfl rfl (by decide) ?_
        | refine R.toStr rfl ?_
        | refine R.convStr rfl ?_
        | refine R.minmax rfl ?_
        | refine R.makeFunc rfl rfl ?_
        | (first | refine S.lss rfl rfl (fun hlt => ?_) (fun hlt => by exfalso; omega) | refine S.lss rfl rfl (fun hlt => by exfalso; omega) (fun hlt => ?_) | refine S.lss rfl rfl (fun hlt => ?_) (fun hlt => ?_))
        | (first | refine S.gtr rfl rfl (fun hlt => ?_) (fun hlt => by exfalso; omega) | refine S.gtr rfl rfl (fun hlt => by exfalso; omega) (fun hlt => ?_) | refine S.gtr rfl rfl (fun hlt => ?_) (fun hlt => ?_))
        | (first | refine S.leq rfl rfl (fun hlt => ?_) (fun hlt => by exfalso; omega) | refine S.leq rfl rfl (fun hlt => by exfalso; omega) (fun hlt => ?_) | refine S.leq rfl rfl (fun hlt => ?_) (fun hlt => ?_))
        | (first | refine S.geq rfl rfl (fun hlt => ?_) (fun hlt => by exfalso; omega) | refine S.geq rfl rfl (fun hlt => by exfalso; omega) (fun hlt => ?_) | refine S.geq rfl rfl (fun hlt => ?_) (fun hlt => ?_))
        | (first | refine S.eqInt rfl rfl (fun hlt => ?_) (fun hlt => by exfalso; omega) | refine S.eqInt rfl rfl (fun hlt => by exfalso; omega) (fun hlt => ?_) | refine S.eqInt rfl rfl (fun hlt => ?_) (fun hlt => ?_)))
      | (refine S.op0 rfl ?_; first | refine S.storeS rfl rfl rfl (by rfl) rfl (by first | decide | exact Nat.le_refl _ | exact Nat.le_of_ble_eq_true rfl) ?_ | refine S.store rfl rfl (by (repeat' (first | assumption | exact AHeap.set_same _ _ _ | refine AHeap.get_fresh (by assumption) ?_ | (refine (AHeap.set_other _ _ ?_).trans ?_; first | exact (AHeap.fresh_set (by assumption)).1 | exact Ne.symm (AHeap.fresh_set (by assumption)).1 | exact AHeap.ne_of (by assumption) (by assumption) | exact Ne.symm (AHeap.ne_of (by assumption) (by assumption)) | exact (AHeap.fresh_set (AHeap.fresh_set (by assumption)).2).1 | exact Ne.symm (AHeap.fresh_set (AHeap.fresh_set (by assumption)).2).1 | exact AHeap.ne_of (AHeap.fresh_set (by assumption)).2 (by assumption) | exact Ne.symm (AHeap.ne_of (AHeap.fresh_set (by assumption)).2 (by assumption)) | assumption | skip) | exact (AHeap.fresh_set (by assumption)).1 | exact Ne.symm (AHeap.fresh_set (by assumption)).1 | exact AHeap.ne_of (by assumption) (by assumption) | exact Ne.symm (AHeap.ne_of (by assumption) (by assumption)) | exact (AHeap.fresh_set (AHeap.fresh_set (by assumption)).2).1 | exact Ne.symm (AHeap.fresh_set (AHeap.fresh_set (by assumption)).2).1 | exact AHeap.ne_of (AHeap.fresh_set (by assumption)).2 (by assumption) | exact Ne.symm (AHeap.ne_of (AHeap.fresh_set (by assumption)).2 (by assumption)))); first | done | fail) rfl rfl rfl (by rfl) rfl ?_)
      | refine S.skip rfl ?_
      | refine S.skip0 rfl ?_
      | refine S.seq ?_
      | refine S.region ?_
      | refine S.regionT ?_
      | refine S.tstep ?_
      | refine S.talt ?_ ?_
      | exact S.tstop
      | refine S.tdone ?_
      | refine S.condT rfl ?_
      | refine S.condF rfl ?_
      | refine RRun.skip ?_
      | refine RRun.block ?_
      | refine RRun.inBlock ?_
      | refine RRun.exit rfl ?_)
    all_goals
      apply S.ret rr5
      case hx => repeat (first | exact ResAt.nil | apply ResAt.tmp rfl | apply ResAt.cellA rfl (by (repeat' (first | assumption | exact AHeap.set_same _ _ _ | refine AHeap.get_fresh (by assumption) ?_ | (refine (AHeap.set_other _ _ ?_).trans ?_; first | exact (AHeap.fresh_set (by assumption)).1 | exact Ne.symm (AHeap.fresh_set (by assumption)).1 | exact AHeap.ne_of (by assumption) (by assumption) | exact Ne.symm (AHeap.ne_of (by assumption) (by assumption)) | exact (AHeap.fresh_set (AHeap.fresh_set (by assumption)).2).1 | exact Ne.symm (AHeap.fresh_set (AHeap.fresh_set (by assumption)).2).1 | exact AHeap.ne_of (AHeap.fresh_set (by assumption)).2 (by assumption) | exact Ne.symm (AHeap.ne_of (AHeap.fresh_set (by assumption)).2 (by assumption)) | assumption | skip) | exact (AHeap.fresh_set (by assumption)).1 | exact Ne.symm (AHeap.fresh_set (by assumption)).1 | exact AHeap.ne_of (by assumption) (by assumption) | exact Ne.symm (AHeap.ne_of (by assumption) (by assumption)) | exact (AHeap.fresh_set (AHeap.fresh_set (by assumption)).2).1 | exact Ne.symm (AHeap.fresh_set (AHeap.fresh_set (by assumption)).2).1 | exact AHeap.ne_of (AHeap.fresh_set (by assumption)).2 (by assumption) | exact Ne.symm (AHeap.ne_of (AHeap.fresh_set (by assumption)).2 (by assumption)))); first | done | fail) (by rfl) | apply ResAt.cell1 rfl (by (repeat' (first | assumption | exact AHeap.set_same _ _ _ | refine AHeap.get_fresh (by assumption) ?_ | (refine (AHeap.set_other _ _ ?_).trans ?_; first | exact (AHeap.fresh_set (by assumption)).1 | exact Ne.symm (AHeap.fresh_set (by assumption)).1 | exact AHeap.ne_of (by assumption) (by assumption) | exact Ne.symm (AHeap.ne_of (by assumption) (by assumption)) | exact (AHeap.fresh_set (AHeap.fresh_set (by assumption)).2).1 | exact Ne.symm (AHeap.fresh_set (AHeap.fresh_set (by assumption)).2).1 | exact AHeap.ne_of (AHeap.fresh_set (by assumption)).2 (by assumption) | exact Ne.symm (AHeap.ne_of (AHeap.fresh_set (by assumption)).2 (by assumption)) | assumption | skip) | exact (AHeap.fresh_set (by assumption)).1 | exact Ne.symm (AHeap.fresh_set (by assumption)).1 | exact AHeap.ne_of (by assumption) (by assumption) | exact Ne.symm (AHeap.ne_of (by assumption) (by assumption)) | exact (AHeap.fresh_set (AHeap.fresh_set (by assumption)).2).1 | exact Ne.symm (AHeap.fresh_set (AHeap.fresh_set (by assumption)).2).1 | exact AHeap.ne_of (AHeap.fresh_set (by assumption)).2 (by assumption) | exact Ne.symm (AHeap.ne_of (AHeap.fresh_set (by assumption)).2 (by assumption)))); first | done | fail) (by rfl))
      exact ⟨_, _, .refl _, (by repeat (first | exact AHeap.le.refl _ | refine AHeap.le.set ?_ _ (by (repeat' (first | assumption | exact (AHeap.fresh_set (by assumption)).2 | exact (AHeap.fresh_set (AHeap.fresh_set (by assumption)).2).2 | exact (AHeap.fresh_set (AHeap.fresh_set (AHeap.fresh_set (by assumption)).2).2).2 | refine (AHeap.set_other _ _ ?_).trans ?_ | exact (AHeap.fresh_set (by assumption)).1 | exact Ne.symm (AHeap.fresh_set (by assumption)).1 | exact AHeap.ne_of (by assumption) (by assumption) | exact Ne.symm (AHeap.ne_of (by assumption) (by assumption)) | exact (AHeap.fresh_set (AHeap.fresh_set (by assumption)).2).1 | exact Ne.symm (AHeap.fresh_set (AHeap.fresh_set (by assumption)).2).1 | exact AHeap.ne_of (AHeap.fresh_set (by assumption)).2 (by assumption) | exact Ne.symm (AHeap.ne_of (AHeap.fresh_set (by assumption)).2 (by assumption)))); first | done | fail) | refine AHeap.le.both ?_ _ _)), _, rfl, rfl⟩
  | true => cases b2 with
    | false =>
      repeat' (first
        | (refine RRun.loopIn ?_)
        | (refine RRun.inLoop ?_)
        | refine S.nilK ?_
        | (refine S.op rfl ?_; first
          | refine R.indexAddr rfl rfl (by omega) hgi ?_
          | refine R.callQ (by decide) rfl (c18 _) ?_
          | refine R.callQ (by decide) rfl (c19 _) ?_
          | refine R.mv rfl ?_
          | refine R.fieldAddr rfl ?_
          | refine R.fieldAddrR rfl ?_
          | refine R.nilCheck rfl ?_
          | refine R.nilCheckR rfl ?_
          | refine R.loadR rfl rfl ?_
          | refine R.load (by decide) rfl (by (repeat' (first | assumption | exact AHeap.set_same _ _ _ | refine AHeap.get_fresh (by assumption) ?_ | (refine (AHeap.set_other _ _ ?_).trans ?_; first | exact (AHeap.fresh_set (by assumption)).1 | exact Ne.symm (AHeap.fresh_set (by assumption)).1 | exact AHeap.ne_of (by assumption) (by assumption) | exact Ne.symm (AHeap.ne_of (by assumption) (by assumption)) | exact (AHeap.fresh_set (AHeap.fresh_set (by assumption)).2).1 | exact Ne.symm (AHeap.fresh_set (AHeap.fresh_set (by assumption)).2).1 | exact AHeap.ne_of (AHeap.fresh_set (by assumption)).2 (by assumption) | exact Ne.symm (AHeap.ne_of (AHeap.fresh_set (by assumption)).2 (by assumption)) | assumption | skip) | exact (AHeap.fresh_set (by assumption)).1 | exact Ne.symm (AHeap.fresh_set (by assumption)).1 | exact AHeap.ne_of (by assumption) (by assumption) | exact Ne.symm (AHeap.ne_of (by assumption) (by assumption)) | exact (AHeap.fresh_set (AHeap.fresh_set (by assumption)).2).1 | exact Ne.symm (AHeap.fresh_set (AHeap.fresh_set (by assumption)).2).1 | exact AHeap.ne_of (AHeap.fresh_set (by assumption)).2 (by assumption) | exact Ne.symm (AHeap.ne_of (AHeap.fresh_set (by assumption)).2 (by assumption)))); first | done | fail) rfl ?_
          | refine S.addI rfl rfl (by omega) ?_
          | refine S.subI rfl rfl (by omega) ?_
          | refine S.addU rfl rfl ?_
          | refine S.subU rfl rfl ?_
          | refine S.addUc rfl (by decide) ?_
          | refine S.subUc rfl (by decide) ?_
          | refine S.arith rfl rfl rfl ?_
          | refine R.pickT rfl rfl ?_
          | refine R.pickF rfl rfl ?_
          | refine R.len rfl ?_
          | refine R.lenA rfl ?_
          | refine R.lenStr rfl ?_
          | refine S.convIU rfl (by omega) ?_
          | refine S.convUI rfl (by omega) ?_
          | refine R.convInt rfl ?_
          | refine R.not rfl ?_
          | refine R.eqPtrNil rfl rfl ?_
          | refine R.extract rfl rfl ?_
          | refine R.field rfl rfl ?_
          | refine R.alloc rfl (fun b hb => ?_)
          | refine R.box rfl rfl rfl (fun b hb => ?_)
          | refine R.build rfl rfl ?_
          | refine R.buildSl rfl rfl rfl (by decide) ?_
          | refine R.toStr rfl ?_
          | refine R.convStr rfl ?_
          | refine R.minmax rfl ?_
          | refine R.makeFunc rfl rfl ?_
          | (first | refine S.lss rfl rfl (fun hlt => ?_) (fun hlt => by exfalso; omega) | refine S.lss rfl rfl (fun hlt => by exfalso; omega) (fun hlt => ?_) | refine S.lss rfl rfl (fun hlt => ?_) (fun hlt => ?_))
          | (first | refine S.gtr rfl rfl (fun hlt => ?_) (fun hlt => by exfalso; omega) | refine S.gtr rfl rfl (fun hlt => by exfalso; omega) (fun hlt => ?_) | refine S.gtr rfl rfl (fun hlt => ?_) (fun hlt => ?_))
          | (first | refine S.leq rfl rfl (fun hlt => ?_) (fun hlt => by exfalso; omega) | refine S.leq rfl rfl (fun hlt => by exfalso; omega) (fun hlt => ?_) | refine S.leq rfl rfl (fun hlt => ?_) (fun hlt => ?_))
          | (first | refine S.geq rfl rfl (fun hlt => ?_) (fun hlt => by exfalso; omega) | refine S.geq rfl rfl (fun hlt => by exfalso; omega) (fun hlt => ?_) | refine S.geq rfl rfl (fun hlt => ?_) (fun hlt => ?_))
          | (first | refine S.eqInt rfl rfl (fun hlt => ?_) (fun hlt => by exfalso; omega) | refine S.eqInt rfl rfl (fun hlt => by exfalso; omega) (fun hlt => ?_) | refine S.eqInt rfl rfl (fun hlt => ?_) (fun hlt => ?_)))
        | (refine S.op0 rfl ?_; first | refine S.storeS rfl rfl rfl (by rfl) rfl (by first | decide | exact Nat.le_refl _ | exact Nat.le_of_ble_eq_true rfl) ?_ | refine S.store rfl rfl (by (repeat' (first | assumption | exact AHeap.set_same _ _ _ | refine AHeap.get_fresh (by assumption) ?_ | (refine (AHeap.set_other _ _ ?_).trans ?_; first | exact (AHeap.fresh_set (by assumption)).1 | exact Ne.symm (AHeap.fresh_set (by assumption)).1 | exact AHeap.ne_of (by assumption) (by assumption) | exact Ne.symm (AHeap.ne_of (by assumption) (by assumption)) | exact (AHeap.fresh_set (AHeap.fresh_set (by assumption)).2).1 | exact Ne.symm (AHeap.fresh_set (AHeap.fresh_set (by assumption)).2).1 | exact AHeap.ne_of (AHeap.fresh_set (by assumption)).2 (by assumption) | exact Ne.symm (AHeap.ne_of (AHeap.fresh_set (by assumption)).2 (by assumption)) | assumption | skip) | exact (AHeap.fresh_set (by assumption)).1 | exact Ne.symm (AHeap.fresh_set (by assumption)).1 | exact AHeap.ne_of (by assumption) (by assumption) | exact Ne.symm (AHeap.ne_of (by assumption) (by assumption)) | exact (AHeap.fresh_set (AHeap.fresh_set (by assumption)).2).1 | exact Ne.symm (AHeap.fresh_set (AHeap.fresh_set (by assumption)).2).1 | exact AHeap.ne_of (AHeap.fresh_set (by assumption)).2 (by assumption) | exact Ne.symm (AHeap.ne_of (AHeap.fresh_set (by assumption)).2 (by assumption)))); first | done | fail) rfl rfl rfl (by rfl) rfl ?_)
        | refine S.skip rfl ?_
        | refine S.skip0 rfl ?_
        | refine S.seq ?_
        | refine S.region ?_
        | refine S.regionT ?_
        | refine S.tstep ?_
        | refine S.talt ?_ ?_
        | exact S.tstop
        | refine S.tdone ?_
        | refine S.condT rfl ?_
        | refine S.condF rfl ?_
        | refine RRun.skip ?_
        | refine RRun.block ?_
        | refine RRun.inBlock ?_
        | refine RRun.exit rfl ?_)
      all_goals
        apply S.ret rr5
        case hx => repeat (first | exact ResAt.nil | apply ResAt.tmp rfl | apply ResAt.cellA rfl (by (repeat' (first | assumption | exact AHeap.set_same _ _ _ | refine AHeap.get_fresh (by assumption) ?_ | (refine (AHeap.set_other _ _ ?_).trans ?_; first | exact (AHeap.fresh_set (by assumption)).1 | exact Ne.symm (AHeap.fresh_set (by assumption)).1 | exact AHeap.ne_of (by assumption) (by assumption) | exact Ne.symm (AHeap.ne_of (by assumption) (by assumption)) | exact (AHeap.fresh_set (AHeap.fresh_set (by assumption)).2).1 | exact Ne.symm (AHeap.fresh_set (AHeap.fresh_set (by assumption)).2).1 | exact AHeap.ne_of (AHeap.fresh_set (by assumption)).2 (by assumption) | exact Ne.symm (AHeap.ne_of (AHeap.fresh_set (by assumption)).2 (by assumption)) | assumption | skip) | exact (AHeap.fresh_set (by assumption)).1 | exact Ne.symm (AHeap.fresh_set (by assumption)).1 | exact AHeap.ne_of (by assumption) (by assumption) | exact Ne.symm (AHeap.ne_of (by assumption) (by assumption)) | exact (AHeap.fresh_set (AHeap.fresh_set (by assumption)).2).1 | exact Ne.symm (AHeap.fresh_set (AHeap.fresh_set (by assumption)).2).1 | exact AHeap.ne_of (AHeap.fresh_set (by assumption)).2 (by assumption) | exact Ne.symm (AHeap.ne_of (AHeap.fresh_set (by assumption)).2 (by assumption)))); first | done | fail) (by rfl) | apply ResAt.cell1 rfl (by (repeat' (first | assumption | exact AHeap.set_same _ _ _ | refine AHeap.get_fresh (by assumption) ?_ | (refine (AHeap.set_other _ _ ?_).trans ?_; first | exact (AHeap.fresh_set (by assumption)).1 | exact Ne.symm (AHeap.fresh_set (by assumption)).1 | exact AHeap.ne_of (by assumption) (by assumption) | exact Ne.symm (AHeap.ne_of (by assumption) (by assumption)) | exact (AHeap.fresh_set (AHeap.fresh_set (by assumption)).2).1 | exact Ne.symm (AHeap.fresh_set (AHeap.fresh_set (by assumption)).2).1 | exact AHeap.ne_of (AHeap.fresh_set (by assumption)).2 (by assumption) | exact Ne.symm (AHeap.ne_of (AHeap.fresh_set (by assumption)).2 (by assumption)) | assumption | skip) | exact (AHeap.fresh_set (by assumption)).1 | exact Ne.symm (AHeap.fresh_set (by assumption)).1 | exact AHeap.ne_of (by assumption) (by assumption) | exact Ne.symm (AHeap.ne_of (by assumption) (by assumption)) | exact (AHeap.fresh_set (AHeap.fresh_set (by assumption)).2).1 | exact Ne.symm (AHeap.fresh_set (AHeap.fresh_set (by assumption)).2).1 | exact AHeap.ne_of (AHeap.fresh_set (by assumption)).2 (by assumption) | exact Ne.symm (AHeap.ne_of (AHeap.fresh_set (by assumption)).2 (by assumption)))); first | done | fail) (by rfl))
        exact ⟨_, _, .refl _, (by repeat (first | exact AHeap.le.refl _ | refine AHeap.le.set ?_ _ (by (repeat' (first | assumption | exact (AHeap.fresh_set (by assumption)).2 | exact (AHeap.fresh_set (AHeap.fresh_set (by assumption)).2).2 | exact (AHeap.fresh_set (AHeap.fresh_set (AHeap.fresh_set (by assumption)).2).2).2 | refine (AHeap.set_other _ _ ?_).trans ?_ | exact (AHeap.fresh_set (by assumption)).1 | exact Ne.symm (AHeap.fresh_set (by assumption)).1 | exact AHeap.ne_of (by assumption) (by assumption) | exact Ne.symm (AHeap.ne_of (by assumption) (by assumption)) | exact (AHeap.fresh_set (AHeap.fresh_set (by assumption)).2).1 | exact Ne.symm (AHeap.fresh_set (AHeap.fresh_set (by assumption)).2).1 | exact AHeap.ne_of (AHeap.fresh_set (by assumption)).2 (by assumption) | exact Ne.symm (AHeap.ne_of (AHeap.fresh_set (by assumption)).2 (by assumption)))); first | done | fail) | refine AHeap.le.both ?_ _ _)), _, rfl, rfl⟩
    | true =>
      repeat' (first
        | (refine RRun.loopIn ?_)
        | (refine RRun.inLoop ?_)
        | refine S.nilK ?_
        | (refine S.op rfl ?_; first
          | refine R.indexAddr rfl rfl (by omega) hgi ?_
          | refine R.callQ (by decide) rfl (c18 _) ?_
          | refine R.callQ (by decide) rfl (c19 _) ?_
          | refine R.mv rfl ?_
          | refine R.fieldAddr rfl ?_
          | refine R.fieldAddrR rfl ?_
          | refine R.nilCheck rfl ?_
          | refine R.nilCheckR rfl ?_
          | refine R.loadR rfl rfl ?_
          | refine R.load (by decide) rfl (by (repeat' (first | assumption | exact AHeap.set_same _ _ _ | refine AHeap.get_fresh (by assumption) ?_ | (refine (AHeap.set_other _ _ ?_).trans ?_; first | exact (AHeap.fresh_set (by assumption)).1 | exact Ne.symm (AHeap.fresh_set (by assumption)).1 | exact AHeap.ne_of (by assumption) (by assumption) | exact Ne.symm (AHeap.ne_of (by assumption) (by assumption)) | exact (AHeap.fresh_set (AHeap.fresh_set (by assumption)).2).1 | exact Ne.symm (AHeap.fresh_set (AHeap.fresh_set (by assumption)).2).1 | exact AHeap.ne_of (AHeap.fresh_set (by assumption)).2 (by assumption) | exact Ne.symm (AHeap.ne_of (AHeap.fresh_set (by assumption)).2 (by assumption)) | assumption | skip) | exact (AHeap.fresh_set (by assumption)).1 | exact Ne.symm (AHeap.fresh_set (by assumption)).1 | exact AHeap.ne_of (by assumption) (by assumption) | exact Ne.symm (AHeap.ne_of (by assumption) (by assumption)) | exact (AHeap.fresh_set (AHeap.fresh_set (by assumption)).2).1 | exact Ne.symm (AHeap.fresh_set (AHeap.fresh_set (by assumption)).2).1 | exact AHeap.ne_of (AHeap.fresh_set (by assumption)).2 (by assumption) | exact Ne.symm (AHeap.ne_of (AHeap.fresh_set (by assumption)).2 (by assumption)))); first | done | fail) rfl ?_
          | refine S.addI rfl rfl (by omega) ?_
          | refine S.subI rfl rfl (by omega) ?_
          | refine S.addU rfl rfl ?_
          | refine S.subU rfl rfl ?_
          | refine S.addUc rfl (by decide) ?_
          | refine S.subUc rfl (by decide) ?_
          | refine S.arith rfl rfl rfl ?_
          | refine R.pickT rfl rfl ?_
          | refine R.pickF rfl rfl ?_
          | refine R.len rfl ?_
          | refine R.lenA rfl ?_
          | refine R.lenStr rfl ?_
          | refine S.convIU rfl (by omega) ?_
          | refine S.convUI rfl (by omega) ?_
          | refine R.convInt rfl ?_
          | refine R.not rfl ?_
          | refine R.eqPtrNil rfl rfl ?_
          | refine R.extract rfl rfl ?_
          | refine R.field rfl rfl ?_
          | refine R.alloc rfl (fun b hb => ?_)
          | refine R.box rfl rfl rfl (fun b hb => ?_)
          | refine R.build rfl rfl ?_
          | refine R.buildSl rfl rfl rfl (by decide) ?_
          | refine R.toStr rfl ?_
          | refine R.convStr rfl ?_
          | refine R.minmax rfl ?_
          | refine R.makeFunc rfl rfl ?_
          | (first | refine S.lss rfl rfl (fun hlt => ?_) (fun hlt => by exfalso; omega) | refine S.lss rfl rfl (fun hlt => by exfalso; omega) (fun hlt => ?_) | refine S.lss rfl rfl (fun hlt => ?_) (fun hlt => ?_))
          | (first | refine S.gtr rfl rfl (fun hlt => ?_) (fun hlt => by exfalso; omega) | refine S.gtr rfl rfl (fun hlt => by exfalso; omega) (fun hlt => ?_) | refine S.gtr rfl rfl (fun hlt => ?_) (fun hlt => ?_))
          | (first | refine S.leq rfl rfl (fun hlt => ?_) (fun hlt => by exfalso; omega) | refine S.leq rfl rfl (fun hlt => by exfalso; omega) (fun hlt => ?_) | refine S.leq rfl rfl (fun hlt => ?_) (fun hlt => ?_))
          | (first | refine S.geq rfl rfl (fun hlt => ?_) (fun hlt => by exfalso; omega) | refine S.geq rfl rfl (fun hlt => by exfalso; omega) (fun hlt => ?_) | refine S.geq rfl rfl (fun hlt => ?_) (fun hlt => ?_))
          | (first | refine S.eqInt rfl rfl (fun hlt => ?_) (fun hlt => by exfalso; omega) | refine S.eqInt rfl rfl (fun hlt => by exfalso; omega) (fun hlt => ?_) | refine S.eqInt rfl rfl (fun hlt => ?_) (fun hlt => ?_)))
        | (refine S.op0 rfl ?_; first | refine S.storeS rfl rfl rfl (by rfl) rfl (by first | decide | exact Nat.le_refl _ | exact Nat.le_of_ble_eq_true rfl) ?_ | refine S.store rfl rfl (by (repeat' (first | assumption | exact AHeap.set_same _ _ _ | refine AHeap.get_fresh (by assumption) ?_ | (refine (AHeap.set_other _ _ ?_).trans ?_; first | exact (AHeap.fresh_set (by assumption)).1 | exact Ne.symm (AHeap.fresh_set (by assumption)).1 | exact AHeap.ne_of (by assumption) (by assumption) | exact Ne.symm (AHeap.ne_of (by assumption) (by assumption)) | exact (AHeap.fresh_set (AHeap.fresh_set (by assumption)).2).1 | exact Ne.symm (AHeap.fresh_set (AHeap.fresh_set (by assumption)).2).1 | exact AHeap.ne_of (AHeap.fresh_set (by assumption)).2 (by assumption) | exact Ne.symm (AHeap.ne_of (AHeap.fresh_set (by assumption)).2 (by assumption)) | assumption | skip) | exact (AHeap.fresh_set (by assumption)).1 | exact Ne.symm (AHeap.fresh_set (by assumption)).1 | exact AHeap.ne_of (by assumption) (by assumption) | exact Ne.symm (AHeap.ne_of (by assumption) (by assumption)) | exact (AHeap.fresh_set (AHeap.fresh_set (by assumption)).2).1 | exact Ne.symm (AHeap.fresh_set (AHeap.fresh_set (by assumption)).2).1 | exact AHeap.ne_of (AHeap.fresh_set (by assumption)).2 (by assumption) | exact Ne.symm (AHeap.ne_of (AHeap.fresh_set (by assumption)).2 (by assumption)))); first | done | fail) rfl rfl rfl (by rfl) rfl ?_)
        | refine S.skip rfl ?_
        | refine S.skip0 rfl ?_
        | refine S.seq ?_
        | refine S.region ?_
        | refine S.regionT ?_
        | refine S.tstep ?_
        | refine S.talt ?_ ?_
        | exact S.tstop
        | refine S.tdone ?_
        | refine S.condT rfl ?_
        | refine S.condF rfl ?_
        | refine RRun.skip ?_
        | refine RRun.block ?_
        | refine RRun.inBlock ?_
        | refine RRun.exit rfl ?_)
      all_goals
        apply S.ret rr5
        case hx => repeat (first | exact ResAt.nil | apply ResAt.tmp rfl | apply ResAt.cellA rfl (by (repeat' (first | assumption | exact AHeap.set_same _ _ _ | refine AHeap.get_fresh (by assumption) ?_ | (refine (AHeap.set_other _ _ ?_).trans ?_; first | exact (AHeap.fresh_set (by assumption)).1 | exact Ne.symm (AHeap.fresh_set (by assumption)).1 | exact AHeap.ne_of (by assumption) (by assumption) | exact Ne.symm (AHeap.ne_of (by assumption) (by assumption)) | exact (AHeap.fresh_set (AHeap.fresh_set (by assumption)).2).1 | exact Ne.symm (AHeap.fresh_set (AHeap.fresh_set (by assumption)).2).1 | exact AHeap.ne_of (AHeap.fresh_set (by assumption)).2 (by assumption) | exact Ne.symm (AHeap.ne_of (AHeap.fresh_set (by assumption)).2 (by assumption)) | assumption | skip) | exact (AHeap.fresh_set (by assumption)).1 | exact Ne.symm (AHeap.fresh_set (by assumption)).1 | exact AHeap.ne_of (by assumption) (by assumption) | exact Ne.symm (AHeap.ne_of (by assumption) (by assumption)) | exact (AHeap.fresh_set (AHeap.fresh_set (by assumption)).2).1 | exact Ne.symm (AHeap.fresh_set (AHeap.fresh_set (by assumption)).2).1 | exact AHeap.ne_of (AHeap.fresh_set (by assumption)).2 (by assumption) | exact Ne.symm (AHeap.ne_of (AHeap.fresh_set (by assumption)).2 (by assumption)))); first | done | fail) (by rfl) | apply ResAt.cell1 rfl (by (repeat' (first | assumption | exact AHeap.set_same _ _ _ | refine AHeap.get_fresh (by assumption) ?_ | (refine (AHeap.set_other _ _ ?_).trans ?_; first | exact (AHeap.fresh_set (by assumption)).1 | exact Ne.symm (AHeap.fresh_set (by assumption)).1 | exact AHeap.ne_of (by assumption) (by assumption) | exact Ne.symm (AHeap.ne_of (by assumption) (by assumption)) | exact (AHeap.fresh_set (AHeap.fresh_set (by assumption)).2).1 | exact Ne.symm (AHeap.fresh_set (AHeap.fresh_set (by assumption)).2).1 | exact AHeap.ne_of (AHeap.fresh_set (by assumption)).2 (by assumption) | exact Ne.symm (AHeap.ne_of (AHeap.fresh_set (by assumption)).2 (by assumption)) | assumption | skip) | exact (AHeap.fresh_set (by assumption)).1 | exact Ne.symm (AHeap.fresh_set (by assumption)).1 | exact AHeap.ne_of (by assumption) (by assumption) | exact Ne.symm (AHeap.ne_of (by assumption) (by assumption)) | exact (AHeap.fresh_set (AHeap.fresh_set (by assumption)).2).1 | exact Ne.symm (AHeap.fresh_set (AHeap.fresh_set (by assumption)).2).1 | exact AHeap.ne_of (AHeap.fresh_set (by assumption)).2 (by assumption) | exact Ne.symm (AHeap.ne_of (AHeap.fresh_set (by assumption)).2 (by assumption)))); first | done | fail) (by rfl))
        exact ⟨_, _, .refl _, (by repeat (first | exact AHeap.le.refl _ | refine AHeap.le.set ?_ _ (by (repeat' (first | assumption | exact (AHeap.fresh_set (by assumption)).2 | exact (AHeap.fresh_set (AHeap.fresh_set (by assumption)).2).2 | exact (AHeap.fresh_set (AHeap.fresh_set (AHeap.fresh_set (by assumption)).2).2).2 | refine (AHeap.set_other _ _ ?_).trans ?_ | exact (AHeap.fresh_set (by assumption)).1 | exact Ne.symm (AHeap.fresh_set (by assumption)).1 | exact AHeap.ne_of (by assumption) (by assumption) | exact Ne.symm (AHeap.ne_of (by assumption) (by assumption)) | exact (AHeap.fresh_set (AHeap.fresh_set (by assumption)).2).1 | exact Ne.symm (AHeap.fresh_set (AHeap.fresh_set (by assumption)).2).1 | exact AHeap.ne_of (AHeap.fresh_set (by assumption)).2 (by assumption) | exact Ne.symm (AHeap.ne_of (AHeap.fresh_set (by assumption)).2 (by assumption)))); first | done | fail) | refine AHeap.le.both ?_ _ _)), _, rfl, rfl⟩

end Go.Proofs.YtcghjnkepooofaaGreat
