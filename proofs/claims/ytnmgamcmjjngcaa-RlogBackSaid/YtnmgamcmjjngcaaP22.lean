/-
  A log that is put record by record is replayed as it was, for every input (where its snapshot's members may be).
-/
import Derived.Test.YtnmgamcmjjngcaaP14
import Derived.Test.YtnmgamcmjjngcaaRows
set_option linter.unusedVariables false
set_option linter.unusedSimpArgs false
namespace Go.Proofs.Ytnmgamcmjjngcaa
open Go.Av
structure Entry where
  index : UInt64
  term : UInt64
  kind : Int
  data : List UInt8
structure Snap where
  index : UInt64
  term : UInt64
  members : List UInt64
  data : List UInt8
def Entry.cells (e : Entry) : List AV := [u64 e.index, u64 e.term, i64 e.kind, bys e.data]
def entries (l : List Entry) : AV := .sl 4 (l.map Entry.cells) .ro
def Snap.cells (s : Snap) : List AV := [u64 s.index, u64 s.term, u64s s.members, bys s.data]
def r65 : RCode :=
  (.seq (.region [
    ⟨(some 2), none, .act, .mv (.const (.slice none 0 0))⟩])
  (.seq (.seq (.region [
    ⟨(some 3), none, .act, .mv (.tmp 0)⟩,
    ⟨(some 4), none, .act, .eq false .slice (.tmp 3) (.const (.slice none 0 0))⟩])
  (.cond (.tmp 4)
   (.seq (.region [
     ⟨(some 2), none, .act, .mv (.const (.slice none 0 0))⟩])
   .ret)
   .skip))
  (.seq (.region [
    ⟨(some 5), none, .act, .buildSl 1 [(.int .u8 0)] 0 []⟩,
    ⟨(some 6), none, .act, .mv (.tmp 0)⟩,
    ⟨(some 7), none, .act, .append 1 1 [(.int .u8 0)] (.tmp 5) (.tmp 6)⟩,
    ⟨(some 2), none, .act, .mv (.tmp 7)⟩])
  .ret)))
theorem res65 : ∃ c, Try.f65.body = some c ∧ resCode Try.prog 8 c = some r65 := ⟨_, rfl, by kernel_rfl⟩
theorem rr65 : resRes Try.prog Try.f65.results.toList = some [.tmp 2] := by kernel_rfl
theorem clone8_spec (l : List UInt8) (hl : l.length ≤ 140737488355328) (h : AHeap) : ACalls Try.prog 65 [bys l] h (fun x h' => x = bys l ∧ h' = h) := by
  obtain ⟨c, hc1, hc2⟩ := res65
  refine ACalls.weak (ACalls.enter Try.func65 hc1 Try.ntmps65 hc2 (Nat.le_of_ble_eq_true rfl) rfl ?_)
  repeat' (first | refine S.nilK ?_ | (refine S.op rfl ?_; first | refine S.eqSlNil rfl rfl rfl ?_ (fun hnil => ?_) | refine R.mv rfl ?_ | refine R.buildSl rfl rfl rfl (by decide) ?_) | refine S.seq ?_ | refine S.region ?_ | refine S.condT rfl ?_ | refine S.condF rfl ?_ | refine RRun.skip ?_)
  · refine S.op rfl (R.appendV rfl (.sl _ _) rfl (.sl _ _) ?_ ?_ ?_ ?_)
    · exact one_bytes l
    · simp [len_bytes, chunks]; omega
    · simp [len_bytes, chunks]; omega
    ·
      repeat' (first | refine S.nilK ?_ | (refine S.op rfl ?_; first | refine R.mv rfl ?_))
      refine RRun.ret rr65 rfl ?_
      exact ⟨_, _, .refl _, .refl _, rfl, rfl⟩
  · refine RRun.ret rr65 rfl ?_
    obtain rfl := nil_bytes hnil
    exact ⟨_, _, .nilSl 1 (c := .ro) trivial, .refl _, rfl, rfl⟩
def r90 : RCode :=
  (.seq (.region [
    ⟨(some 2), none, .act, .mv (.const (.slice none 0 0))⟩])
  (.seq (.seq (.region [
    ⟨(some 3), none, .act, .mv (.tmp 0)⟩,
    ⟨(some 4), none, .act, .eq false .slice (.tmp 3) (.const (.slice none 0 0))⟩])
  (.cond (.tmp 4)
   (.seq (.region [
     ⟨(some 2), none, .act, .mv (.const (.slice none 0 0))⟩])
   .ret)
   .skip))
  (.seq (.region [
    ⟨(some 5), none, .act, .buildSl 1 [(.int .u64 0)] 0 []⟩,
    ⟨(some 6), none, .act, .mv (.tmp 0)⟩,
    ⟨(some 7), none, .act, .append 1 8 [(.int .u64 0)] (.tmp 5) (.tmp 6)⟩,
    ⟨(some 2), none, .act, .mv (.tmp 7)⟩])
  .ret)))
theorem res90 : ∃ c, Try.f90.body = some c ∧ resCode Try.prog 8 c = some r90 := ⟨_, rfl, by kernel_rfl⟩
theorem rr90 : resRes Try.prog Try.f90.results.toList = some [.tmp 2] := by kernel_rfl
theorem clone64_spec (l : List UInt64) (hl : l.length ≤ 17592186044416) (h : AHeap) : ACalls Try.prog 90 [u64s l] h (fun x h' => x = u64s l ∧ h' = h) := by
  obtain ⟨c, hc1, hc2⟩ := res90
  refine ACalls.weak (ACalls.enter Try.func90 hc1 Try.ntmps90 hc2 (Nat.le_of_ble_eq_true rfl) rfl ?_)
  repeat' (first | refine S.nilK ?_ | (refine S.op rfl ?_; first | refine S.eqSlNil rfl rfl rfl ?_ (fun hnil => ?_) | refine R.mv rfl ?_ | refine R.buildSl rfl rfl rfl (by decide) ?_) | refine S.seq ?_ | refine S.region ?_ | refine S.condT rfl ?_ | refine S.condF rfl ?_ | refine RRun.skip ?_)
  · refine S.op rfl (R.appendV rfl (.sl _ _) rfl (.sl _ _) ?_ ?_ ?_ ?_)
    · exact one_u64s l
    · simp [chunks]; omega
    · simp [chunks]; omega
    ·
      repeat' (first | refine S.nilK ?_ | (refine S.op rfl ?_; first | refine R.mv rfl ?_))
      refine RRun.ret rr90 rfl ?_
      exact ⟨_, _, .refl _, .refl _, rfl, rfl⟩
  · refine RRun.ret rr90 rfl ?_
    obtain rfl : l = [] := by simpa using hnil
    exact ⟨_, _, .nilSl 1 (c := .ro) trivial, .refl _, rfl, rfl⟩
def r53 : RCode :=
  (.seq (.region [
    ⟨(some 1), none, .act, .box (.tmp 0)⟩,
    ⟨(some 2), none, .act, .alloc [(.int .u64 0), (.int .u64 0), (.int .i64 0), (.slice none 0 0)]⟩])
  (.seq (.region [
    ⟨(some 3), none, .act, .fieldAddr 3 (.tmp 1)⟩,
    ⟨(some 4), none, .act, .load false 1 (.tmp 3)⟩,
    ⟨(some 5), none, .act, .call 65 [(.tmp 4)]⟩,
    ⟨(some 6), none, .act, .fieldAddr 3 (.tmp 1)⟩,
    ⟨none, none, .act, .store 1 (.tmp 6) (.tmp 5)⟩])
  (.seq (.region [
    ⟨(some 7), none, .act, .load true 4 (.tmp 1)⟩,
    ⟨none, none, .act, .store 4 (.tmp 2) (.tmp 7)⟩])
  .ret)))
theorem res53 : ∃ c, Try.f53.body = some c ∧ resCode Try.prog 8 c = some r53 := ⟨_, rfl, by kernel_rfl⟩
theorem rr53 : resRes Try.prog Try.f53.results.toList = some [.cell 2 true 4] := by kernel_rfl
theorem own_spec (e : Entry) (hl : e.data.length ≤ 140737488355328) (h : AHeap) : ACalls Try.prog 53 [.ag e.cells] h (fun x h' => x = .ag e.cells ∧ h' = h) := by
  obtain ⟨c, hc1, hc2⟩ := res53
  refine ACalls.weak (ACalls.enter Try.func53 hc1 Try.ntmps53 hc2 (Nat.le_of_ble_eq_true rfl) rfl ?_)
  repeat' (first | refine S.nilK ?_ | (refine S.op rfl ?_; first | refine R.callQ (by decide) rfl (clone8_spec _ hl _) ?_ | refine R.fieldAddr rfl ?_ | refine R.load (by decide) rfl (by (repeat' (first | exact AHeap.set_same _ _ _ | refine AHeap.get_fresh ‹_› ?_)); first | done | fail) rfl ?_ | refine R.alloc rfl (fun b hb => ?_) | refine R.box rfl rfl rfl (fun b hb => ?_)) | (refine S.op0 rfl ?_; first | refine S.store rfl rfl (by (repeat' (first | exact AHeap.set_same _ _ _ | refine AHeap.get_fresh ‹_› ?_ | refine AHeap.so ?_ ?_ | exact AHeap.n1 ‹_›)); first | done | fail) rfl rfl rfl (by rfl) rfl ?_) | refine S.seq ?_ | refine S.region ?_)
  apply S.ret rr53
  case hx => repeat (first | exact ResAt.nil | apply ResAt.cellA rfl (by (repeat' (first | exact AHeap.set_same _ _ _)); first | done | fail) (by rfl))
  exact ⟨_, _, .refl _, (by repeat (first | exact AHeap.le.refl _ | refine AHeap.le.set ?_ _ (by (repeat' (first | assumption | exact AHeap.z1 ‹_›)); first | done | fail))), rfl, rfl⟩
def r89 : RCode :=
  (.seq (.region [
    ⟨(some 1), none, .act, .box (.tmp 0)⟩,
    ⟨(some 2), none, .act, .alloc [(.int .u64 0), (.int .u64 0), (.slice none 0 0), (.slice none 0 0)]⟩])
  (.seq (.region [
    ⟨(some 3), none, .pure, .fieldAddr 2 (.tmp 1)⟩,
    ⟨(some 4), none, .read, .load false 1 (.tmp 3)⟩,
    ⟨(some 5), none, .read, .call 90 [(.tmp 4)]⟩,
    ⟨(some 6), none, .pure, .fieldAddr 3 (.tmp 1)⟩,
    ⟨(some 7), none, .read, .load false 1 (.tmp 6)⟩,
    ⟨(some 9), none, .pure, .fieldAddr 2 (.tmp 1)⟩,
    ⟨(some 8), none, .act, .call 65 [(.tmp 7)]⟩,
    ⟨none, none, .act, .store 1 (.tmp 9) (.tmp 5)⟩,
    ⟨(some 10), none, .pure, .fieldAddr 3 (.tmp 1)⟩,
    ⟨none, none, .act, .store 1 (.tmp 10) (.tmp 8)⟩])
  (.seq (.region [
    ⟨(some 11), none, .act, .load true 4 (.tmp 1)⟩,
    ⟨none, none, .act, .store 4 (.tmp 2) (.tmp 11)⟩])
  .ret)))
theorem res89 : ∃ c, Try.f89.body = some c ∧ resCode Try.prog 12 c = some r89 := ⟨_, rfl, by kernel_rfl⟩
theorem rr89 : resRes Try.prog Try.f89.results.toList = some [.cell 2 true 4] := by kernel_rfl
theorem cloned_spec (s : Snap) (hm : s.members.length ≤ 17592186044416) (hl : s.data.length ≤ 140737488355328) (h : AHeap) : ACalls Try.prog 89 [.ag s.cells] h (fun x h' => x = .ag s.cells ∧ h' = h) := by
  obtain ⟨c, hc1, hc2⟩ := res89
  refine ACalls.weak (ACalls.enter Try.func89 hc1 Try.ntmps89 hc2 (Nat.le_of_ble_eq_true rfl) rfl ?_)
  repeat' (first | refine S.nilK ?_ | (refine S.op rfl ?_; first | refine R.callQ (by decide) rfl (clone8_spec _ hl _) ?_ | refine R.callQ (by decide) rfl (clone64_spec _ hm _) ?_ | refine R.fieldAddr rfl ?_ | refine R.load (by decide) rfl (by (repeat' (first | exact AHeap.set_same _ _ _ | refine AHeap.get_fresh ‹_› ?_)); first | done | fail) rfl ?_ | refine R.alloc rfl (fun b hb => ?_) | refine R.box rfl rfl rfl (fun b hb => ?_)) | (refine S.op0 rfl ?_; first | refine S.store rfl rfl (by (repeat' (first | exact AHeap.set_same _ _ _ | refine AHeap.get_fresh ‹_› ?_ | refine AHeap.so ?_ ?_ | exact AHeap.n1 ‹_›)); first | done | fail) rfl rfl rfl (by rfl) rfl ?_) | refine S.seq ?_ | refine S.region ?_)
  apply S.ret rr89
  case hx => repeat (first | exact ResAt.nil | apply ResAt.cellA rfl (by (repeat' (first | exact AHeap.set_same _ _ _)); first | done | fail) (by rfl))
  exact ⟨_, _, .refl _, (by repeat (first | exact AHeap.le.refl _ | refine AHeap.le.set ?_ _ (by (repeat' (first | assumption | exact AHeap.z1 ‹_›)); first | done | fail))), rfl, rfl⟩
def far : UInt64 := 4611686018427387904
def Snap.copied (s : Snap) : Snap := { s with index := if far < s.index then far else s.index }
def r51 : RCode :=
  (.seq (.region [
    ⟨(some 1), none, .act, .box (.tmp 0)⟩,
    ⟨(some 2), none, .act, .alloc [(.int .u64 0), (.int .u64 0), (.slice none 0 0), (.slice none 0 0)]⟩])
  (.seq (.region [
    ⟨(some 3), none, .act, .fieldAddr 0 (.tmp 1)⟩,
    ⟨(some 4), none, .act, .load false 1 (.tmp 3)⟩,
    ⟨(some 5), none, .act, .minmax false [(.tmp 4), (.const (.int .u64 4611686018427387904))]⟩,
    ⟨(some 6), none, .act, .fieldAddr 0 (.tmp 1)⟩,
    ⟨none, none, .act, .store 1 (.tmp 6) (.tmp 5)⟩])
  (.seq (.region [
    ⟨(some 7), none, .act, .load true 4 (.tmp 1)⟩,
    ⟨(some 8), none, .act, .call 89 [(.tmp 7)]⟩,
    ⟨none, none, .act, .store 4 (.tmp 2) (.tmp 8)⟩])
  .ret)))
theorem res51 : ∃ c, Try.f51.body = some c ∧ resCode Try.prog 9 c = some r51 := ⟨_, rfl, by kernel_rfl⟩
theorem rr51 : resRes Try.prog Try.f51.results.toList = some [.cell 2 true 4] := by kernel_rfl
theorem copied_spec (s : Snap) (hm : s.members.length ≤ 17592186044416) (hl : s.data.length ≤ 140737488355328) (h : AHeap) : ACalls Try.prog 51 [.ag s.cells] h (fun x h' => x = .ag s.copied.cells ∧ h' = h) := by
  obtain ⟨c, hc1, hc2⟩ := res51
  refine ACalls.weak (ACalls.enter Try.func51 hc1 Try.ntmps51 hc2 (Nat.le_of_ble_eq_true rfl) rfl ?_)
  have hmin : minInt (List.map (fun x => x.2) [(IntKind.u64, (4611686018427387904 : Int))]) (s.index.toNat : Int) = (s.copied.index.toNat : Int) := by
    simp only [List.map, minInt, Snap.copied]
    by_cases hlt : far < s.index
    · have h2 := UInt64.lt_iff_toNat_lt.1 hlt
      have h3 : far.toNat = 4611686018427387904 := rfl
      rw [if_pos (by omega), if_pos hlt, h3]; rfl
    · have h2 : ¬ far.toNat < s.index.toNat := fun e => hlt (UInt64.lt_iff_toNat_lt.2 e)
      have h3 : far.toNat = 4611686018427387904 := rfl
      rw [if_neg (by omega), if_neg hlt]
  repeat' (first | refine S.nilK ?_ | (refine S.op rfl ?_; first | refine S.minIs rfl hmin ?_ | refine R.callQ (by decide) rfl (cloned_spec s.copied hm hl _) ?_ | refine R.fieldAddr rfl ?_ | refine R.load (by decide) rfl (by (repeat' (first | exact AHeap.set_same _ _ _ | refine AHeap.get_fresh ‹_› ?_)); first | done | fail) rfl ?_ | refine R.alloc rfl (fun b hb => ?_) | refine R.box rfl rfl rfl (fun b hb => ?_)) | (refine S.op0 rfl ?_; first | refine S.store rfl rfl (by (repeat' (first | exact AHeap.set_same _ _ _ | refine AHeap.get_fresh ‹_› ?_ | refine AHeap.so ?_ ?_ | exact AHeap.n1 ‹_›)); first | done | fail) rfl rfl rfl (by rfl) rfl ?_) | refine S.seq ?_ | refine S.region ?_)
  apply S.ret rr51
  case hx => repeat (first | exact ResAt.nil | apply ResAt.cellA rfl (by (repeat' (first | exact AHeap.set_same _ _ _)); first | done | fail) (by rfl))
  exact ⟨_, _, .refl _, (by repeat (first | exact AHeap.le.refl _ | refine AHeap.le.set ?_ _ (by (repeat' (first | assumption | exact AHeap.z1 ‹_›)); first | done | fail))), rfl, rfl⟩
structure Log where
  s : Snap
  l : List Entry
  dirty : UInt64
  fresh : Bool
def Log.cells (L : Log) : List AV := [u64 L.s.index, u64 L.s.term, u64s L.s.members, bys L.s.data, entries L.l, u64 L.dirty, bl L.fresh]
def r13 : RCode :=
  (.seq (.region [
    ⟨(some 1), none, .act, .box (.tmp 0)⟩,
    ⟨(some 2), none, .act, .mv (.const (.pointer none))⟩])
  (.seq (.region [
    ⟨(some 3), none, .act, .load true 4 (.tmp 1)⟩,
    ⟨(some 4), none, .act, .call 51 [(.tmp 3)]⟩,
    ⟨(some 5), none, .act, .build [(.int .u64 0), (.int .u64 0), (.slice none 0 0), (.slice none 0 0), (.slice none 0 0), (.int .u64 0), (.bool false)] [(0, 4, (.tmp 4))]⟩,
    ⟨(some 6), none, .act, .box (.tmp 5)⟩,
    ⟨(some 2), none, .act, .mv (.tmp 6)⟩])
  .ret))
theorem res13 : ∃ c, Try.f13.body = some c ∧ resCode Try.prog 7 c = some r13 := ⟨_, rfl, by kernel_rfl⟩
theorem rr13 : resRes Try.prog Try.f13.results.toList = some [.tmp 2] := by kernel_rfl
theorem new_spec (s : Snap) (hm : s.members.length ≤ 17592186044416) (hl : s.data.length ≤ 140737488355328) (h : AHeap) :
    ACalls Try.prog 13 [.ag s.cells] h (fun x h' => ∃ b, h b = none ∧ x = ptr b ∧ h' = h.set b (.box (Log.cells ⟨s.copied, [], 0, false⟩))) := by
  obtain ⟨c, hc1, hc2⟩ := res13
  refine ACalls.weak (ACalls.enter Try.func13 hc1 Try.ntmps13 hc2 (Nat.le_of_ble_eq_true rfl) rfl ?_)
  repeat' (first | refine S.nilK ?_ | (refine S.op rfl ?_; first | refine R.callQ (by decide) rfl (copied_spec s hm hl _) ?_ | refine R.mv rfl ?_ | refine R.load (by decide) rfl (by (repeat' (first | exact AHeap.set_same _ _ _)); first | done | fail) rfl ?_ | refine R.box rfl rfl rfl (fun b hb => ?_) | refine R.build rfl rfl ?_) | refine S.seq ?_ | refine S.region ?_)
  apply S.ret rr13
  case hx => repeat (first | exact ResAt.nil | apply ResAt.tmp rfl)
  refine ⟨_, _, .refl _, AHeap.le.bothW ((AHeap.le.refl h).set _ (by (repeat' (first | assumption)); first | done | fail)) b (.box ?_), b, (by (repeat' (first | exact AHeap.z1 ‹_›)); first | done | fail), rfl, rfl⟩
  exact .cons (.refl _) (.cons (.refl _) (.cons (.refl _) (.cons (.refl _) (.cons (.nilSl 4 (c := .ro) trivial) (.refl _)))))
def r16 : RCode :=
  (.seq (.region [
    ⟨(some 2), none, .act, .mv (.const (.int .u64 0))⟩])
  (.seq (.seq (.region [
    ⟨(some 3), none, .act, .mv (.tmp 0)⟩,
    ⟨(some 4), none, .act, .eq false .ptr (.tmp 3) (.const (.pointer none))⟩])
  (.cond (.tmp 4)
   (.seq (.region [
     ⟨(some 2), none, .act, .mv (.const (.int .u64 1))⟩])
   .ret)
   .skip))
  (.seq (.region [
    ⟨(some 5), none, .act, .mv (.tmp 0)⟩,
    ⟨(some 6), none, .act, .nilCheck (.tmp 5)⟩,
    ⟨(some 7), none, .act, .fieldAddr 0 (.tmp 6)⟩,
    ⟨(some 8), none, .act, .fieldAddr 0 (.tmp 7)⟩,
    ⟨(some 9), none, .act, .load false 1 (.tmp 8)⟩,
    ⟨(some 10), none, .act, .bin .add (.tmp 9) (.const (.int .u64 1))⟩,
    ⟨(some 2), none, .act, .mv (.tmp 10)⟩])
  .ret)))
theorem res16 : ∃ c, Try.f16.body = some c ∧ resCode Try.prog 11 c = some r16 := ⟨_, rfl, by kernel_rfl⟩
theorem rr16 : resRes Try.prog Try.f16.results.toList = some [.tmp 2] := by kernel_rfl
theorem first_spec (L : Log) (b : Nat) (h : AHeap) (hb : h b = some (.box L.cells)) : ACalls Try.prog 16 [ptr b] h (fun x h' => x = u64 (L.s.index + 1) ∧ h' = h) := by
  obtain ⟨c, hc1, hc2⟩ := res16
  refine ACalls.enter Try.func16 hc1 Try.ntmps16 hc2 (Nat.le_of_ble_eq_true rfl) rfl ?_
  repeat' (first | refine S.nilK ?_ | (refine S.op rfl ?_; first | refine R.mv rfl ?_ | refine R.fieldAddr rfl ?_ | refine R.nilCheck rfl ?_ | refine R.load (by decide) rfl (by (repeat' (first | assumption)); first | done | fail) rfl ?_ | refine S.addUc rfl (by decide) ?_ | refine R.eqPtrNil rfl rfl ?_) | refine S.seq ?_ | refine S.region ?_ | refine S.condF rfl ?_ | refine RRun.skip ?_)
  apply S.ret rr16
  case hx => repeat (first | exact ResAt.nil | apply ResAt.tmp rfl)
  exact ⟨rfl, rfl⟩
def r50 : RCode :=
  (.seq (.region [
    ⟨(some 2), none, .act, .mv (.const (.int .u64 0))⟩])
  (.seq (.seq (.region [
    ⟨(some 3), none, .act, .mv (.tmp 0)⟩,
    ⟨(some 4), none, .act, .eq false .ptr (.tmp 3) (.const (.pointer none))⟩])
  (.cond (.tmp 4)
   (.seq (.region [
     ⟨(some 2), none, .act, .mv (.const (.int .u64 0))⟩])
   .ret)
   .skip))
  (.seq (.region [
    ⟨(some 5), none, .pure, .mv (.tmp 0)⟩,
    ⟨(some 6), none, .pure, .nilCheck (.tmp 5)⟩,
    ⟨(some 7), none, .pure, .fieldAddr 0 (.tmp 6)⟩,
    ⟨(some 8), none, .pure, .fieldAddr 0 (.tmp 7)⟩,
    ⟨(some 9), none, .read, .load false 1 (.tmp 8)⟩,
    ⟨(some 10), none, .pure, .mv (.tmp 0)⟩,
    ⟨(some 11), none, .pure, .nilCheck (.tmp 10)⟩,
    ⟨(some 12), none, .pure, .fieldAddr 4 (.tmp 11)⟩,
    ⟨(some 13), none, .read, .load false 1 (.tmp 12)⟩,
    ⟨(some 14), none, .pure, .len (.tmp 13)⟩,
    ⟨(some 15), none, .pure, .convInt .u64 (.tmp 14)⟩,
    ⟨(some 16), none, .pure, .bin .add (.tmp 9) (.tmp 15)⟩,
    ⟨(some 2), none, .pure, .mv (.tmp 16)⟩])
  .ret)))
theorem res50 : ∃ c, Try.f50.body = some c ∧ resCode Try.prog 17 c = some r50 := ⟨_, rfl, by kernel_rfl⟩
theorem rr50 : resRes Try.prog Try.f50.results.toList = some [.tmp 2] := by kernel_rfl
theorem last_spec (L : Log) (hl : L.l.length ≤ 17592186044416) (b : Nat) (h : AHeap) (hb : h b = some (.box L.cells)) : ACalls Try.prog 50 [ptr b] h (fun x h' => x = u64 (L.s.index + UInt64.ofNat L.l.length) ∧ h' = h) := by
  have hlen : (L.l.map Entry.cells).length = L.l.length := by simp
  obtain ⟨c, hc1, hc2⟩ := res50
  refine ACalls.enter Try.func50 hc1 Try.ntmps50 hc2 (Nat.le_of_ble_eq_true rfl) rfl ?_
  repeat' (first | refine S.nilK ?_ | (refine S.op rfl ?_; first | refine R.mv rfl ?_ | refine R.fieldAddr rfl ?_ | refine R.nilCheck rfl ?_ | refine R.load (by decide) rfl (by (repeat' (first | assumption)); first | done | fail) rfl ?_ | refine S.addU rfl rfl ?_ | refine R.len rfl ?_ | refine S.convIU rfl (by omega) ?_ | refine R.eqPtrNil rfl rfl ?_) | refine S.seq ?_ | refine S.region ?_ | refine S.condF rfl ?_ | refine RRun.skip ?_)
  apply S.ret rr50
  case hx => repeat (first | exact ResAt.nil | apply ResAt.tmp rfl)
  exact ⟨by rw [hlen]; rfl, rfl⟩
def follow : List Entry → Bool
  | e :: f :: r => (f.index - 1 == e.index) && follow (f :: r)
  | _ => true
theorem follow_drop (l : List Entry) (i : Nat) (hi : 1 ≤ i) (hlt : i < l.length) : follow (l.drop (i - 1)) = ((l[i].index - 1 == l[i - 1].index) && follow (l.drop i)) := by
  have h1 : l.drop (i - 1) = l[i - 1] :: l[i] :: l.drop (i + 1) := by
    rw [List.drop_eq_getElem_cons (show i - 1 < l.length by omega)]
    have : i - 1 + 1 = i := by omega
    rw [this, List.drop_eq_getElem_cons hlt]
  have h2 : l.drop i = l[i] :: l.drop (i + 1) := List.drop_eq_getElem_cons hlt
  rw [h1, h2, follow]
theorem follow_end (l : List Entry) (i : Nat) (hi : l.length ≤ i) : follow (l.drop (i - 1)) = true := by
  have : (l.drop (i - 1)).length ≤ 1 := by simp; omega
  generalize l.drop (i - 1) = r at this
  match r, this with
  | [], _ => rfl
  | [_], _ => rfl
  | _ :: _ :: _, h => simp at h
def r52l0 : RCode :=
  (.seq (.seq (.region [
    ⟨(some 4), none, .act, .mv (.tmp 3)⟩,
    ⟨(some 5), none, .act, .mv (.tmp 0)⟩,
    ⟨(some 6), none, .act, .len (.tmp 5)⟩,
    ⟨(some 7), none, .act, .bin .lss (.tmp 4) (.tmp 6)⟩])
  (.cond (.tmp 7)
   .skip
   (.exit 0)))
  (.seq (.block 1
   (.seq (.region [
     ⟨(some 10), none, .pure, .mv (.tmp 0)⟩,
     ⟨(some 11), none, .pure, .mv (.tmp 3)⟩,
     ⟨(some 12), none, .pure, .indexAddr 4 (.tmp 10) (.tmp 11)⟩,
     ⟨(some 13), none, .pure, .fieldAddr 0 (.tmp 12)⟩,
     ⟨(some 14), none, .read, .load false 1 (.tmp 13)⟩,
     ⟨(some 15), none, .pure, .bin .sub (.tmp 14) (.const (.int .u64 1))⟩,
     ⟨(some 16), none, .pure, .mv (.tmp 0)⟩,
     ⟨(some 17), none, .pure, .mv (.tmp 3)⟩,
     ⟨(some 18), none, .pure, .bin .sub (.tmp 17) (.const (.int .i64 1))⟩,
     ⟨(some 19), none, .pure, .indexAddr 4 (.tmp 16) (.tmp 18)⟩,
     ⟨(some 20), none, .pure, .fieldAddr 0 (.tmp 19)⟩,
     ⟨(some 21), none, .read, .load false 1 (.tmp 20)⟩,
     ⟨(some 22), none, .pure, .eq true .int (.tmp 15) (.tmp 21)⟩])
   (.cond (.tmp 22)
    (.seq (.region [
      ⟨(some 2), none, .act, .mv (.const (.bool false))⟩])
    .ret)
    .skip)))
  (.region [
    ⟨(some 8), none, .act, .mv (.tmp 3)⟩,
    ⟨(some 9), none, .act, .bin .add (.tmp 8) (.const (.int .i64 1))⟩,
    ⟨(some 3), none, .act, .mv (.tmp 9)⟩])))
def r52 : RCode :=
  (.seq (.region [
    ⟨(some 2), none, .act, .mv (.const (.bool false))⟩])
  (.seq (.seq (.region [
    ⟨(some 3), none, .act, .mv (.const (.int .i64 1))⟩])
  (.block 0
   (.loop r52l0)))
  (.seq (.region [
    ⟨(some 2), none, .act, .mv (.const (.bool true))⟩])
  .ret)))
theorem res52 : ∃ c, Try.f52.body = some c ∧ resCode Try.prog 23 c = some r52 := ⟨_, rfl, by kernel_rfl⟩
theorem rr52 : resRes Try.prog Try.f52.results.toList = some [.tmp 2] := by kernel_rfl
theorem follow_loop (l : List Entry) (hl : l.length ≤ 17592186044416) (h : AHeap) (m : Nat) : ∀ (i : Nat) (k : List RT), 1 ≤ i → i + m = l.length ∨ (l.length ≤ i ∧ m = 0) →
    RRun Try.prog Try.f52 23 k (Env.get [(0, entries l)]) h (fun x h' => x = bl true ∧ h' = h) →
    RRun Try.prog Try.f52 23 (.inLoop r52l0 :: .inBlock 0 :: k) (Env.get [(3, i64 i), (0, entries l)]) h (fun x h' => x = bl (follow (l.drop (i - 1))) ∧ h' = h) := by
  have hlen : (l.map Entry.cells).length = l.length := by simp
  induction m with
  | zero =>
    intro i k hi hm hk
    refine RRun.inLoop ?_
    repeat' (first | refine S.nilK ?_ | (refine S.op rfl ?_; first | refine R.mv rfl ?_ | refine R.len rfl ?_ | ((first | refine S.lss rfl rfl ?_ ?_) <;> intro hlt <;> try (exfalso; omega))) | refine S.seq ?_ | refine S.region ?_ | refine S.condF rfl ?_ | refine RRun.exit rfl ?_)
    rw [follow_end l i (by omega)]
    exact S.keep [0] rfl hk
  | succ m ih =>
    intro i k hi hm hk
    have hil : i < l.length := by omega
    have h1 : (l.map Entry.cells)[((i : Nat) : Int).toNat]? = some l[i].cells := by simp [hil]
    have h2 : (l.map Entry.cells)[((i : Nat) - 1 : Int).toNat]? = some l[i - 1].cells := by
      have : ((i : Nat) - 1 : Int).toNat = i - 1 := by omega
      rw [this, List.getElem?_map, List.getElem?_eq_getElem (show i - 1 < l.length by omega)]; rfl
    rw [follow_drop l i hi hil]
    refine RRun.inLoop ?_
    repeat' (first | refine S.nilK ?_ | (refine S.op rfl ?_; first | refine R.indexAddr rfl rfl (by omega) h1 ?_ | refine R.indexAddr rfl rfl (by omega) h2 ?_ | refine R.mv rfl ?_ | refine R.fieldAddrR rfl ?_ | refine R.loadR rfl rfl ?_ | refine S.addI rfl rfl (by omega) ?_ | refine S.subI rfl rfl (by omega) ?_ | refine S.subUc rfl (by decide) ?_ | refine R.len rfl ?_ | ((first | refine S.lss rfl rfl ?_ ?_ | refine S.eqInt rfl rfl ?_ ?_) <;> intro hlt <;> try (exfalso; omega))) | refine S.seq ?_ | refine S.region ?_ | refine S.condT rfl ?_ | refine S.condF rfl ?_ | refine RRun.skip ?_ | refine RRun.block ?_ | refine RRun.inBlock ?_)
    · have : (l[i].index - 1 == l[i - 1].index) = true := by
        simp only [beq_iff_eq]
        exact UInt64.toNat_inj.1 (by exact_mod_cast hlt)
      rw [this, Bool.true_and, show ((i : Int) + 1) = ((i + 1 : Nat) : Int) by omega]
      have ih' := ih (i + 1) k (by omega) (by omega) hk
      rw [show i + 1 - 1 = i by omega] at ih'
      exact S.keep [3, 0] rfl ih'
    ·
      apply S.ret rr52
      case hx => repeat (first | exact ResAt.nil | apply ResAt.tmp rfl)
      have : (l[i].index - 1 == l[i - 1].index) = false := by
        simp only [beq_eq_false_iff_ne, ne_eq]
        intro e
        apply hlt
        rw [← e]
      rw [this]
      exact ⟨rfl, rfl⟩
theorem follow_spec (l : List Entry) (hl : l.length ≤ 17592186044416) (h : AHeap) : ACalls Try.prog 52 [entries l] h (fun x h' => x = bl (follow l) ∧ h' = h) := by
  obtain ⟨c, hc1, hc2⟩ := res52
  refine ACalls.enter Try.func52 hc1 Try.ntmps52 hc2 (Nat.le_of_ble_eq_true rfl) rfl ?_
  repeat' (first | refine S.nilK ?_ | (refine S.op rfl ?_; first | refine R.mv rfl ?_) | refine S.seq ?_ | refine S.region ?_ | refine RRun.block ?_)
  refine RRun.loopIn (S.keep [3, 0] rfl (follow_loop l hl h (l.length - 1) 1 _ (Nat.le_refl _) (by omega) ?_))
  repeat' (first | refine S.nilK ?_ | (refine S.op rfl ?_; first | refine R.mv rfl ?_) | refine S.seq ?_ | refine S.region ?_)
  apply S.ret rr52
  case hx => repeat (first | exact ResAt.nil | apply ResAt.tmp rfl)
  exact ⟨rfl, rfl⟩
end Go.Proofs.Ytnmgamcmjjngcaa
