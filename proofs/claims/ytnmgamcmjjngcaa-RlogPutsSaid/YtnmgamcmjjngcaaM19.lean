import Derived.Test.YtnmgamcmjjngcaaM18
set_option linter.unusedVariables false
set_option linter.unusedSimpArgs false
namespace Go.Proofs.Ytnmgamcmjjngcaa
open Go.Av

def md40 : Nat → Bool := fun id => [1].contains id
/-- plenum/plenumref06.PutHard -/
def r40 : RCode :=
  (.seq (.region [
    ⟨(some 1), none, .act, .box (.tmp 0)⟩,
    ⟨(some 2), none, .act, .mv (.const (.slice none 0 0))⟩])
  (.seq (.regionT (.step ⟨(some 4), none, .pure, .fieldAddr 0 (.tmp 1)⟩ (.step ⟨(some 7), none, .pure, .fieldAddr 1 (.tmp 1)⟩ (.alt ⟨(some 3), none, .act, .call 80 [(.const (.slice none 0 0)), (.const (.int .u64 1))]⟩ (.step ⟨(some 5), none, .read, .load false 1 (.tmp 4)⟩ (.alt ⟨(some 6), none, .act, .call 80 [(.tmp 3), (.tmp 5)]⟩ (.step ⟨(some 8), none, .read, .load false 1 (.tmp 7)⟩ (.alt ⟨(some 9), none, .act, .call 80 [(.tmp 6), (.tmp 8)]⟩ (.step ⟨(some 2), none, .pure, .mv (.tmp 9)⟩ .done)
    .stop))
    (.alt ⟨(some 8), none, .read, .load false 1 (.tmp 7)⟩ (.alt ⟨(some 6), none, .act, .call 80 [(.tmp 3), (.tmp 5)]⟩ (.alt ⟨(some 9), none, .act, .call 80 [(.tmp 6), (.tmp 8)]⟩ (.step ⟨(some 2), none, .pure, .mv (.tmp 9)⟩ .done)
    .stop)
    .stop)
    .stop)))
    (.alt ⟨(some 5), none, .read, .load false 1 (.tmp 4)⟩ (.alt ⟨(some 3), none, .act, .call 80 [(.const (.slice none 0 0)), (.const (.int .u64 1))]⟩ (.alt ⟨(some 6), none, .act, .call 80 [(.tmp 3), (.tmp 5)]⟩ (.step ⟨(some 8), none, .read, .load false 1 (.tmp 7)⟩ (.alt ⟨(some 9), none, .act, .call 80 [(.tmp 6), (.tmp 8)]⟩ (.step ⟨(some 2), none, .pure, .mv (.tmp 9)⟩ .done)
    .stop))
    (.alt ⟨(some 8), none, .read, .load false 1 (.tmp 7)⟩ (.alt ⟨(some 6), none, .act, .call 80 [(.tmp 3), (.tmp 5)]⟩ (.alt ⟨(some 9), none, .act, .call 80 [(.tmp 6), (.tmp 8)]⟩ (.step ⟨(some 2), none, .pure, .mv (.tmp 9)⟩ .done)
    .stop)
    .stop)
    .stop))
    (.alt ⟨(some 8), none, .read, .load false 1 (.tmp 7)⟩ (.alt ⟨(some 3), none, .act, .call 80 [(.const (.slice none 0 0)), (.const (.int .u64 1))]⟩ (.alt ⟨(some 6), none, .act, .call 80 [(.tmp 3), (.tmp 5)]⟩ (.alt ⟨(some 9), none, .act, .call 80 [(.tmp 6), (.tmp 8)]⟩ (.step ⟨(some 2), none, .pure, .mv (.tmp 9)⟩ .done)
    .stop)
    .stop)
    .stop)
    .stop))
    (.alt ⟨(some 8), none, .read, .load false 1 (.tmp 7)⟩ (.alt ⟨(some 3), none, .act, .call 80 [(.const (.slice none 0 0)), (.const (.int .u64 1))]⟩ (.step ⟨(some 5), none, .read, .load false 1 (.tmp 4)⟩ (.alt ⟨(some 6), none, .act, .call 80 [(.tmp 3), (.tmp 5)]⟩ (.alt ⟨(some 9), none, .act, .call 80 [(.tmp 6), (.tmp 8)]⟩ (.step ⟨(some 2), none, .pure, .mv (.tmp 9)⟩ .done)
    .stop)
    .stop))
    (.alt ⟨(some 5), none, .read, .load false 1 (.tmp 4)⟩ (.alt ⟨(some 3), none, .act, .call 80 [(.const (.slice none 0 0)), (.const (.int .u64 1))]⟩ (.alt ⟨(some 6), none, .act, .call 80 [(.tmp 3), (.tmp 5)]⟩ (.alt ⟨(some 9), none, .act, .call 80 [(.tmp 6), (.tmp 8)]⟩ (.step ⟨(some 2), none, .pure, .mv (.tmp 9)⟩ .done)
    .stop)
    .stop)
    .stop)
    .stop))
    .stop))))))
  .ret))
theorem res40 : ∃ c, Try.f40.body = some c ∧ resCodeM Try.prog 10 md40 c = some r40 := ⟨_, rfl, by kernel_rfl⟩
theorem rr40 : resRes Try.prog Try.f40.results.toList = some [.tmp 2] := by kernel_rfl
theorem refHard_spec (t v : UInt64) (h : AHeap) : ACalls Try.prog 40 [.ag [enc t, enc v]] h (fun x h' => x = bysC (putNs [1, t, v]) .ro ∧ h' = h) := by
  obtain ⟨c, hc1, hc2⟩ := res40
  refine ACalls.weak (ACalls.enter Try.func40 hc1 Try.ntmps40 hc2 (Nat.le_of_ble_eq_true rfl) rfl ?_)
  have e : putNs [1, t, v] = putN (1 : UInt64).toNat ++ putN t.toNat ++ putN v.toNat := by simp [putNs]
  have l1 := putN_len (UInt64.toNat_lt 1)
  have l2 := putN_len (UInt64.toNat_lt t)
  have c1 := fun h => refN_nil 1 h
  have c2 := fun h => refN_spec (putN (1 : UInt64).toNat) (by omega) t h
  have c3 := fun h => refN_spec (putN (1 : UInt64).toNat ++ putN t.toNat) (by rw [List.length_append]; omega) v h
  rw [e]
  repeat' (first | refine S.nilK ?_ | (refine S.op rfl ?_; first | refine callS rfl rfl (c1 _) ?_ | refine callS rfl rfl (c2 _) ?_ | refine callS rfl rfl (c3 _) ?_ | refine R.mv rfl ?_ | refine R.fieldAddr rfl ?_ | refine R.fieldAddrR rfl ?_ | refine R.loadR rfl rfl ?_ | refine R.load (by decide) rfl (by (repeat' (first | assumption | exact AHeap.set_same _ _ _ | refine AHeap.get_fresh ‹_› ?_ | refine AHeap.so ?_ ?_ | exact AHeap.n1 ‹_› | exact AHeap.n2 ‹_› | exact AHeap.ne_of ‹_› ‹_› | exact AHeap.n4 ‹_› ‹_› | exact AHeap.n5 ‹_› | exact AHeap.n6 ‹_› | exact AHeap.n7 ‹_› ‹_› | exact AHeap.n8 ‹_› ‹_›)); first | done | fail) rfl ?_ | refine R.box rfl rfl rfl (fun b hb => ?_)) | refine S.skip rfl ?_ | refine S.skip0 rfl ?_ | refine S.seq ?_ | refine S.region ?_ | refine S.regionT ?_ | refine S.tstep ?_ | refine S.talt ?_ ?_ | exact S.tstop | refine S.tdone ?_ | refine S.condT rfl ?_ | refine S.condF rfl ?_ | refine RRun.skip ?_ | refine RRun.block ?_ | refine RRun.inBlock ?_ | refine RRun.exit rfl ?_)
  all_goals
    apply S.ret rr40
    case hx => repeat (first | exact ResAt.nil | apply ResAt.tmp rfl | apply ResAt.cellA rfl (by (repeat' (first | assumption | exact AHeap.set_same _ _ _ | refine AHeap.get_fresh ‹_› ?_ | refine AHeap.so ?_ ?_ | exact AHeap.n1 ‹_› | exact AHeap.n2 ‹_› | exact AHeap.ne_of ‹_› ‹_› | exact AHeap.n4 ‹_› ‹_› | exact AHeap.n5 ‹_› | exact AHeap.n6 ‹_› | exact AHeap.n7 ‹_› ‹_› | exact AHeap.n8 ‹_› ‹_›)); first | done | fail) (by rfl) | apply ResAt.cell1 rfl (by (repeat' (first | assumption | exact AHeap.set_same _ _ _ | refine AHeap.get_fresh ‹_› ?_ | refine AHeap.so ?_ ?_ | exact AHeap.n1 ‹_› | exact AHeap.n2 ‹_› | exact AHeap.ne_of ‹_› ‹_› | exact AHeap.n4 ‹_› ‹_› | exact AHeap.n5 ‹_› | exact AHeap.n6 ‹_› | exact AHeap.n7 ‹_› ‹_› | exact AHeap.n8 ‹_› ‹_›)); first | done | fail) (by rfl))
    exact ⟨_, h, .refl _, (by repeat (first | exact AHeap.le.refl _ | refine AHeap.le.set ?_ _ (by (repeat' (first | assumption | exact AHeap.z1 ‹_› | exact AHeap.z2 ‹_› | exact AHeap.z3 ‹_› | refine AHeap.so ?_ ?_ | exact AHeap.n1 ‹_› | exact AHeap.n2 ‹_› | exact AHeap.ne_of ‹_› ‹_› | exact AHeap.n4 ‹_› ‹_› | exact AHeap.n5 ‹_› | exact AHeap.n6 ‹_› | exact AHeap.n7 ‹_› ‹_› | exact AHeap.n8 ‹_› ‹_›)); first | done | fail) | refine AHeap.le.both ?_ _ _)), rfl, rfl⟩

def md42 : Nat → Bool := fun id => [1, 2].contains id
/-- plenum/plenumref06.PutEntry -/
def r42 : RCode :=
  (.seq (.region [
    ⟨(some 1), none, .act, .box (.tmp 0)⟩,
    ⟨(some 2), none, .act, .mv (.const (.slice none 0 0))⟩])
  (.seq (.regionT (.step ⟨(some 5), none, .pure, .fieldAddr 0 (.tmp 1)⟩ (.step ⟨(some 8), none, .pure, .fieldAddr 1 (.tmp 1)⟩ (.alt ⟨(some 4), none, .act, .call 80 [(.const (.slice none 0 0)), (.const (.int .u64 2))]⟩ (.step ⟨(some 6), none, .read, .load false 1 (.tmp 5)⟩ (.alt ⟨(some 7), none, .act, .call 80 [(.tmp 4), (.tmp 6)]⟩ (.step ⟨(some 9), none, .read, .load false 1 (.tmp 8)⟩ (.alt ⟨(some 10), none, .act, .call 80 [(.tmp 7), (.tmp 9)]⟩ (.step ⟨(some 3), none, .pure, .mv (.tmp 10)⟩ .done)
    .stop))
    (.alt ⟨(some 9), none, .read, .load false 1 (.tmp 8)⟩ (.alt ⟨(some 7), none, .act, .call 80 [(.tmp 4), (.tmp 6)]⟩ (.alt ⟨(some 10), none, .act, .call 80 [(.tmp 7), (.tmp 9)]⟩ (.step ⟨(some 3), none, .pure, .mv (.tmp 10)⟩ .done)
    .stop)
    .stop)
    .stop)))
    (.alt ⟨(some 6), none, .read, .load false 1 (.tmp 5)⟩ (.alt ⟨(some 4), none, .act, .call 80 [(.const (.slice none 0 0)), (.const (.int .u64 2))]⟩ (.alt ⟨(some 7), none, .act, .call 80 [(.tmp 4), (.tmp 6)]⟩ (.step ⟨(some 9), none, .read, .load false 1 (.tmp 8)⟩ (.alt ⟨(some 10), none, .act, .call 80 [(.tmp 7), (.tmp 9)]⟩ (.step ⟨(some 3), none, .pure, .mv (.tmp 10)⟩ .done)
    .stop))
    (.alt ⟨(some 9), none, .read, .load false 1 (.tmp 8)⟩ (.alt ⟨(some 7), none, .act, .call 80 [(.tmp 4), (.tmp 6)]⟩ (.alt ⟨(some 10), none, .act, .call 80 [(.tmp 7), (.tmp 9)]⟩ (.step ⟨(some 3), none, .pure, .mv (.tmp 10)⟩ .done)
    .stop)
    .stop)
    .stop))
    (.alt ⟨(some 9), none, .read, .load false 1 (.tmp 8)⟩ (.alt ⟨(some 4), none, .act, .call 80 [(.const (.slice none 0 0)), (.const (.int .u64 2))]⟩ (.alt ⟨(some 7), none, .act, .call 80 [(.tmp 4), (.tmp 6)]⟩ (.alt ⟨(some 10), none, .act, .call 80 [(.tmp 7), (.tmp 9)]⟩ (.step ⟨(some 3), none, .pure, .mv (.tmp 10)⟩ .done)
    .stop)
    .stop)
    .stop)
    .stop))
    (.alt ⟨(some 9), none, .read, .load false 1 (.tmp 8)⟩ (.alt ⟨(some 4), none, .act, .call 80 [(.const (.slice none 0 0)), (.const (.int .u64 2))]⟩ (.step ⟨(some 6), none, .read, .load false 1 (.tmp 5)⟩ (.alt ⟨(some 7), none, .act, .call 80 [(.tmp 4), (.tmp 6)]⟩ (.alt ⟨(some 10), none, .act, .call 80 [(.tmp 7), (.tmp 9)]⟩ (.step ⟨(some 3), none, .pure, .mv (.tmp 10)⟩ .done)
    .stop)
    .stop))
    (.alt ⟨(some 6), none, .read, .load false 1 (.tmp 5)⟩ (.alt ⟨(some 4), none, .act, .call 80 [(.const (.slice none 0 0)), (.const (.int .u64 2))]⟩ (.alt ⟨(some 7), none, .act, .call 80 [(.tmp 4), (.tmp 6)]⟩ (.alt ⟨(some 10), none, .act, .call 80 [(.tmp 7), (.tmp 9)]⟩ (.step ⟨(some 3), none, .pure, .mv (.tmp 10)⟩ .done)
    .stop)
    .stop)
    .stop)
    .stop))
    .stop))))))
  (.seq (.regionT (.step ⟨(some 11), none, .pure, .mv (.tmp 3)⟩ (.step ⟨(some 12), none, .pure, .fieldAddr 2 (.tmp 1)⟩ (.step ⟨(some 13), none, .read, .load false 1 (.tmp 12)⟩ (.step ⟨(some 16), none, .pure, .fieldAddr 3 (.tmp 1)⟩ (.alt ⟨(some 14), none, .act, .call 84 [(.tmp 13)]⟩ (.alt ⟨(some 15), none, .act, .call 80 [(.tmp 11), (.tmp 14)]⟩ (.step ⟨(some 17), none, .read, .load false 1 (.tmp 16)⟩ (.alt ⟨(some 18), none, .act, .call 83 [(.tmp 15), (.tmp 17)]⟩ (.step ⟨(some 2), none, .pure, .mv (.tmp 18)⟩ .done)
    .stop))
    (.alt ⟨(some 17), none, .read, .load false 1 (.tmp 16)⟩ (.alt ⟨(some 15), none, .act, .call 80 [(.tmp 11), (.tmp 14)]⟩ (.alt ⟨(some 18), none, .act, .call 83 [(.tmp 15), (.tmp 17)]⟩ (.step ⟨(some 2), none, .pure, .mv (.tmp 18)⟩ .done)
    .stop)
    .stop)
    .stop))
    (.alt ⟨(some 17), none, .read, .load false 1 (.tmp 16)⟩ (.alt ⟨(some 14), none, .act, .call 84 [(.tmp 13)]⟩ (.alt ⟨(some 15), none, .act, .call 80 [(.tmp 11), (.tmp 14)]⟩ (.alt ⟨(some 18), none, .act, .call 83 [(.tmp 15), (.tmp 17)]⟩ (.step ⟨(some 2), none, .pure, .mv (.tmp 18)⟩ .done)
    .stop)
    .stop)
    .stop)
    .stop)))))))
  .ret)))
theorem res42 : ∃ c, Try.f42.body = some c ∧ resCodeM Try.prog 19 md42 c = some r42 := ⟨_, rfl, by kernel_rfl⟩
theorem rr42 : resRes Try.prog Try.f42.results.toList = some [.tmp 2] := by kernel_rfl
theorem refEntry_spec (e : Entry) (hf : -9223372036854775808 ≤ e.kind ∧ e.kind ≤ 9223372036854775807) (hl : e.data.length ≤ 100000) (h : AHeap) : ACalls Try.prog 42 [.ag e.cells] h (fun x h' => x = bysC (putE e) .ro ∧ h' = h) := by
  obtain ⟨c, hc1, hc2⟩ := res42
  obtain ⟨ix, t, kind, data⟩ := e
  simp only at hf hl
  rw [show Entry.cells ⟨ix, t, kind, data⟩ = [enc ix, enc t, i64 kind, bysC data .ro] from rfl]
  refine ACalls.weak (ACalls.enter Try.func42 hc1 Try.ntmps42 hc2 (Nat.le_of_ble_eq_true rfl) rfl ?_)
  have e : putE ⟨ix, t, kind, data⟩ = putN (2 : UInt64).toNat ++ putN ix.toNat ++ putN t.toNat ++ putN (UInt64.ofNat (zig kind)).toNat ++ putText data := by simp [putE, putNs]
  have l1 := putN_len (UInt64.toNat_lt 2)
  have l2 := putN_len (UInt64.toNat_lt ix)
  have l3 := putN_len (UInt64.toNat_lt t)
  have l4 := putN_len (UInt64.toNat_lt (UInt64.ofNat (zig kind)))
  have c1 := fun h => refN_nil 2 h
  have c2 := fun h => refN_spec (putN (2 : UInt64).toNat) (by omega) ix h
  have c3 := fun h => refN_spec (putN (2 : UInt64).toNat ++ putN ix.toNat) (by rw [List.length_append]; omega) t h
  have c4 := fun h => refN_spec (putN (2 : UInt64).toNat ++ putN ix.toNat ++ putN t.toNat) (by rw [List.length_append, List.length_append]; omega) (UInt64.ofNat (zig kind)) h
  have c5 := fun h => refText_spec (putN (2 : UInt64).toNat ++ putN ix.toNat ++ putN t.toNat ++ putN (UInt64.ofNat (zig kind)).toNat) data (by rw [List.length_append, List.length_append, List.length_append]; omega) (by omega) h
  have cz := fun h => zigR_spec kind hf h
  rw [e]
  repeat' (first | refine S.nilK ?_ | (refine S.op rfl ?_; first | refine callS rfl rfl (c1 _) ?_ | refine callS rfl rfl (c2 _) ?_ | refine callS rfl rfl (c3 _) ?_ | refine callS rfl rfl (c4 _) ?_ | refine callS rfl rfl (c5 _) ?_ | refine callS rfl rfl (cz _) ?_ | refine R.mv rfl ?_ | refine R.fieldAddr rfl ?_ | refine R.fieldAddrR rfl ?_ | refine R.loadR rfl rfl ?_ | refine R.load (by decide) rfl (by (repeat' (first | assumption | exact AHeap.set_same _ _ _ | refine AHeap.get_fresh ‹_› ?_ | refine AHeap.so ?_ ?_ | exact AHeap.n1 ‹_› | exact AHeap.n2 ‹_› | exact AHeap.ne_of ‹_› ‹_› | exact AHeap.n4 ‹_› ‹_› | exact AHeap.n5 ‹_› | exact AHeap.n6 ‹_› | exact AHeap.n7 ‹_› ‹_› | exact AHeap.n8 ‹_› ‹_›)); first | done | fail) rfl ?_ | refine R.box rfl rfl rfl (fun b hb => ?_)) | refine S.skip rfl ?_ | refine S.skip0 rfl ?_ | refine S.seq ?_ | refine S.region ?_ | refine S.regionT ?_ | refine S.tstep ?_ | refine S.talt ?_ ?_ | exact S.tstop | refine S.tdone ?_ | refine S.condT rfl ?_ | refine S.condF rfl ?_ | refine RRun.skip ?_ | refine RRun.block ?_ | refine RRun.inBlock ?_ | refine RRun.exit rfl ?_)
  all_goals
    apply S.ret rr42
    case hx => repeat (first | exact ResAt.nil | apply ResAt.tmp rfl | apply ResAt.cellA rfl (by (repeat' (first | assumption | exact AHeap.set_same _ _ _ | refine AHeap.get_fresh ‹_› ?_ | refine AHeap.so ?_ ?_ | exact AHeap.n1 ‹_› | exact AHeap.n2 ‹_› | exact AHeap.ne_of ‹_› ‹_› | exact AHeap.n4 ‹_› ‹_› | exact AHeap.n5 ‹_› | exact AHeap.n6 ‹_› | exact AHeap.n7 ‹_› ‹_› | exact AHeap.n8 ‹_› ‹_›)); first | done | fail) (by rfl) | apply ResAt.cell1 rfl (by (repeat' (first | assumption | exact AHeap.set_same _ _ _ | refine AHeap.get_fresh ‹_› ?_ | refine AHeap.so ?_ ?_ | exact AHeap.n1 ‹_› | exact AHeap.n2 ‹_› | exact AHeap.ne_of ‹_› ‹_› | exact AHeap.n4 ‹_› ‹_› | exact AHeap.n5 ‹_› | exact AHeap.n6 ‹_› | exact AHeap.n7 ‹_› ‹_› | exact AHeap.n8 ‹_› ‹_›)); first | done | fail) (by rfl))
    exact ⟨_, h, .refl _, (by repeat (first | exact AHeap.le.refl _ | refine AHeap.le.set ?_ _ (by (repeat' (first | assumption | exact AHeap.z1 ‹_› | exact AHeap.z2 ‹_› | exact AHeap.z3 ‹_› | refine AHeap.so ?_ ?_ | exact AHeap.n1 ‹_› | exact AHeap.n2 ‹_› | exact AHeap.ne_of ‹_› ‹_› | exact AHeap.n4 ‹_› ‹_› | exact AHeap.n5 ‹_› | exact AHeap.n6 ‹_› | exact AHeap.n7 ‹_› ‹_› | exact AHeap.n8 ‹_› ‹_›)); first | done | fail) | refine AHeap.le.both ?_ _ _)), rfl, rfl⟩

def md44 : Nat → Bool := fun id => [1, 2].contains id
/-- plenum/plenumref06.PutSnap -/
def r44 : RCode :=
  (.seq (.region [
    ⟨(some 1), none, .act, .box (.tmp 0)⟩,
    ⟨(some 2), none, .act, .mv (.const (.slice none 0 0))⟩])
  (.seq (.regionT (.step ⟨(some 5), none, .pure, .fieldAddr 0 (.tmp 1)⟩ (.step ⟨(some 8), none, .pure, .fieldAddr 1 (.tmp 1)⟩ (.alt ⟨(some 4), none, .act, .call 80 [(.const (.slice none 0 0)), (.const (.int .u64 3))]⟩ (.step ⟨(some 6), none, .read, .load false 1 (.tmp 5)⟩ (.alt ⟨(some 7), none, .act, .call 80 [(.tmp 4), (.tmp 6)]⟩ (.step ⟨(some 9), none, .read, .load false 1 (.tmp 8)⟩ (.alt ⟨(some 10), none, .act, .call 80 [(.tmp 7), (.tmp 9)]⟩ (.step ⟨(some 3), none, .pure, .mv (.tmp 10)⟩ .done)
    .stop))
    (.alt ⟨(some 9), none, .read, .load false 1 (.tmp 8)⟩ (.alt ⟨(some 7), none, .act, .call 80 [(.tmp 4), (.tmp 6)]⟩ (.alt ⟨(some 10), none, .act, .call 80 [(.tmp 7), (.tmp 9)]⟩ (.step ⟨(some 3), none, .pure, .mv (.tmp 10)⟩ .done)
    .stop)
    .stop)
    .stop)))
    (.alt ⟨(some 6), none, .read, .load false 1 (.tmp 5)⟩ (.alt ⟨(some 4), none, .act, .call 80 [(.const (.slice none 0 0)), (.const (.int .u64 3))]⟩ (.alt ⟨(some 7), none, .act, .call 80 [(.tmp 4), (.tmp 6)]⟩ (.step ⟨(some 9), none, .read, .load false 1 (.tmp 8)⟩ (.alt ⟨(some 10), none, .act, .call 80 [(.tmp 7), (.tmp 9)]⟩ (.step ⟨(some 3), none, .pure, .mv (.tmp 10)⟩ .done)
    .stop))
    (.alt ⟨(some 9), none, .read, .load false 1 (.tmp 8)⟩ (.alt ⟨(some 7), none, .act, .call 80 [(.tmp 4), (.tmp 6)]⟩ (.alt ⟨(some 10), none, .act, .call 80 [(.tmp 7), (.tmp 9)]⟩ (.step ⟨(some 3), none, .pure, .mv (.tmp 10)⟩ .done)
    .stop)
    .stop)
    .stop))
    (.alt ⟨(some 9), none, .read, .load false 1 (.tmp 8)⟩ (.alt ⟨(some 4), none, .act, .call 80 [(.const (.slice none 0 0)), (.const (.int .u64 3))]⟩ (.alt ⟨(some 7), none, .act, .call 80 [(.tmp 4), (.tmp 6)]⟩ (.alt ⟨(some 10), none, .act, .call 80 [(.tmp 7), (.tmp 9)]⟩ (.step ⟨(some 3), none, .pure, .mv (.tmp 10)⟩ .done)
    .stop)
    .stop)
    .stop)
    .stop))
    (.alt ⟨(some 9), none, .read, .load false 1 (.tmp 8)⟩ (.alt ⟨(some 4), none, .act, .call 80 [(.const (.slice none 0 0)), (.const (.int .u64 3))]⟩ (.step ⟨(some 6), none, .read, .load false 1 (.tmp 5)⟩ (.alt ⟨(some 7), none, .act, .call 80 [(.tmp 4), (.tmp 6)]⟩ (.alt ⟨(some 10), none, .act, .call 80 [(.tmp 7), (.tmp 9)]⟩ (.step ⟨(some 3), none, .pure, .mv (.tmp 10)⟩ .done)
    .stop)
    .stop))
    (.alt ⟨(some 6), none, .read, .load false 1 (.tmp 5)⟩ (.alt ⟨(some 4), none, .act, .call 80 [(.const (.slice none 0 0)), (.const (.int .u64 3))]⟩ (.alt ⟨(some 7), none, .act, .call 80 [(.tmp 4), (.tmp 6)]⟩ (.alt ⟨(some 10), none, .act, .call 80 [(.tmp 7), (.tmp 9)]⟩ (.step ⟨(some 3), none, .pure, .mv (.tmp 10)⟩ .done)
    .stop)
    .stop)
    .stop)
    .stop))
    .stop))))))
  (.seq (.regionT (.step ⟨(some 11), none, .pure, .mv (.tmp 3)⟩ (.step ⟨(some 12), none, .pure, .fieldAddr 2 (.tmp 1)⟩ (.step ⟨(some 13), none, .read, .load false 1 (.tmp 12)⟩ (.step ⟨(some 16), none, .pure, .fieldAddr 3 (.tmp 1)⟩ (.alt ⟨(some 14), none, .act, .call 46 [(.tmp 13)]⟩ (.alt ⟨(some 15), none, .act, .call 83 [(.tmp 11), (.tmp 14)]⟩ (.step ⟨(some 17), none, .read, .load false 1 (.tmp 16)⟩ (.alt ⟨(some 18), none, .act, .call 83 [(.tmp 15), (.tmp 17)]⟩ (.step ⟨(some 2), none, .pure, .mv (.tmp 18)⟩ .done)
    .stop))
    (.alt ⟨(some 17), none, .read, .load false 1 (.tmp 16)⟩ (.alt ⟨(some 15), none, .act, .call 83 [(.tmp 11), (.tmp 14)]⟩ (.alt ⟨(some 18), none, .act, .call 83 [(.tmp 15), (.tmp 17)]⟩ (.step ⟨(some 2), none, .pure, .mv (.tmp 18)⟩ .done)
    .stop)
    .stop)
    .stop))
    (.alt ⟨(some 17), none, .read, .load false 1 (.tmp 16)⟩ (.alt ⟨(some 14), none, .act, .call 46 [(.tmp 13)]⟩ (.alt ⟨(some 15), none, .act, .call 83 [(.tmp 11), (.tmp 14)]⟩ (.alt ⟨(some 18), none, .act, .call 83 [(.tmp 15), (.tmp 17)]⟩ (.step ⟨(some 2), none, .pure, .mv (.tmp 18)⟩ .done)
    .stop)
    .stop)
    .stop)
    .stop)))))))
  .ret)))
theorem res44 : ∃ c, Try.f44.body = some c ∧ resCodeM Try.prog 19 md44 c = some r44 := ⟨_, rfl, by kernel_rfl⟩
theorem rr44 : resRes Try.prog Try.f44.results.toList = some [.tmp 2] := by kernel_rfl
theorem refSnap_spec (s : Snap) (hm : s.members.length ≤ 49) (hl : s.data.length ≤ 100000) (h : AHeap) : ACalls Try.prog 44 [.ag s.cells] h (fun x h' => x = bysC (putS s) .ro ∧ h' = h) := by
  obtain ⟨c, hc1, hc2⟩ := res44
  obtain ⟨ix, t, ms, data⟩ := s
  simp only at hm hl
  rw [show Snap.cells ⟨ix, t, ms, data⟩ = [enc ix, enc t, u64s ms, bysC data .ro] from rfl]
  refine ACalls.weak (ACalls.enter Try.func44 hc1 Try.ntmps44 hc2 (Nat.le_of_ble_eq_true rfl) rfl ?_)
  have e : putS ⟨ix, t, ms, data⟩ = putN (3 : UInt64).toNat ++ putN ix.toNat ++ putN t.toNat ++ putText (putM ms) ++ putText data := by simp [putS, putNs]
  have l1 := putN_len (UInt64.toNat_lt 3)
  have l2 := putN_len (UInt64.toNat_lt ix)
  have l3 := putN_len (UInt64.toNat_lt t)
  have l4 := putM_len (l := ms)
  have l5 := putText_len (b := putM ms) (by omega)
  have c1 := fun h => refN_nil 3 h
  have c2 := fun h => refN_spec (putN (3 : UInt64).toNat) (by omega) ix h
  have c3 := fun h => refN_spec (putN (3 : UInt64).toNat ++ putN ix.toNat) (by rw [List.length_append]; omega) t h
  have c4 := fun h => refText_spec (putN (3 : UInt64).toNat ++ putN ix.toNat ++ putN t.toNat) (putM ms) (by rw [List.length_append, List.length_append]; omega) (by omega) h
  have c5 := fun h => refText_spec (putN (3 : UInt64).toNat ++ putN ix.toNat ++ putN t.toNat ++ putText (putM ms)) data (by rw [List.length_append, List.length_append, List.length_append]; omega) (by omega) h
  have cm := fun h => refMembers_spec ms hm h
  rw [e]
  repeat' (first | refine S.nilK ?_ | (refine S.op rfl ?_; first | refine callS rfl rfl (c1 _) ?_ | refine callS rfl rfl (c2 _) ?_ | refine callS rfl rfl (c3 _) ?_ | refine callS rfl rfl (c4 _) ?_ | refine callS rfl rfl (c5 _) ?_ | refine callS rfl rfl (cm _) ?_ | refine R.mv rfl ?_ | refine R.fieldAddr rfl ?_ | refine R.fieldAddrR rfl ?_ | refine R.loadR rfl rfl ?_ | refine R.load (by decide) rfl (by (repeat' (first | assumption | exact AHeap.set_same _ _ _ | refine AHeap.get_fresh ‹_› ?_ | refine AHeap.so ?_ ?_ | exact AHeap.n1 ‹_› | exact AHeap.n2 ‹_› | exact AHeap.ne_of ‹_› ‹_› | exact AHeap.n4 ‹_› ‹_› | exact AHeap.n5 ‹_› | exact AHeap.n6 ‹_› | exact AHeap.n7 ‹_› ‹_› | exact AHeap.n8 ‹_› ‹_›)); first | done | fail) rfl ?_ | refine R.box rfl rfl rfl (fun b hb => ?_)) | refine S.skip rfl ?_ | refine S.skip0 rfl ?_ | refine S.seq ?_ | refine S.region ?_ | refine S.regionT ?_ | refine S.tstep ?_ | refine S.talt ?_ ?_ | exact S.tstop | refine S.tdone ?_ | refine S.condT rfl ?_ | refine S.condF rfl ?_ | refine RRun.skip ?_ | refine RRun.block ?_ | refine RRun.inBlock ?_ | refine RRun.exit rfl ?_)
  all_goals
    apply S.ret rr44
    case hx => repeat (first | exact ResAt.nil | apply ResAt.tmp rfl | apply ResAt.cellA rfl (by (repeat' (first | assumption | exact AHeap.set_same _ _ _ | refine AHeap.get_fresh ‹_› ?_ | refine AHeap.so ?_ ?_ | exact AHeap.n1 ‹_› | exact AHeap.n2 ‹_› | exact AHeap.ne_of ‹_› ‹_› | exact AHeap.n4 ‹_› ‹_› | exact AHeap.n5 ‹_› | exact AHeap.n6 ‹_› | exact AHeap.n7 ‹_› ‹_› | exact AHeap.n8 ‹_› ‹_›)); first | done | fail) (by rfl) | apply ResAt.cell1 rfl (by (repeat' (first | assumption | exact AHeap.set_same _ _ _ | refine AHeap.get_fresh ‹_› ?_ | refine AHeap.so ?_ ?_ | exact AHeap.n1 ‹_› | exact AHeap.n2 ‹_› | exact AHeap.ne_of ‹_› ‹_› | exact AHeap.n4 ‹_› ‹_› | exact AHeap.n5 ‹_› | exact AHeap.n6 ‹_› | exact AHeap.n7 ‹_› ‹_› | exact AHeap.n8 ‹_› ‹_›)); first | done | fail) (by rfl))
    exact ⟨_, h, .refl _, (by repeat (first | exact AHeap.le.refl _ | refine AHeap.le.set ?_ _ (by (repeat' (first | assumption | exact AHeap.z1 ‹_› | exact AHeap.z2 ‹_› | exact AHeap.z3 ‹_› | refine AHeap.so ?_ ?_ | exact AHeap.n1 ‹_› | exact AHeap.n2 ‹_› | exact AHeap.ne_of ‹_› ‹_› | exact AHeap.n4 ‹_› ‹_› | exact AHeap.n5 ‹_› | exact AHeap.n6 ‹_› | exact AHeap.n7 ‹_› ‹_› | exact AHeap.n8 ‹_› ‹_›)); first | done | fail) | refine AHeap.le.both ?_ _ _)), rfl, rfl⟩

end Go.Proofs.Ytnmgamcmjjngcaa
