import Derived.Test.YtnmgamcmjjngcaaT5
set_option linter.unusedVariables false
set_option linter.unusedSimpArgs false
namespace Go.Proofs.Ytnmgamcmjjngcaa
open Go.Av

def zeroSnap : Snap := ⟨0, 0, [], []⟩
def oneEntry : Entry := ⟨1, 5, 0, []⟩
theorem zero_le : ALes [.ag [.v (.int .u64 0), .v (.int .u64 0), .v (.slice none 0 0), .v (.slice none 0 0)]] [.ag zeroSnap.cells] :=
  .cons (.ag (.cons (.refl _) (.cons (.refl _) (.cons (.nilSl 1 (c := .ro) trivial) (.cons (.nilSl 1 (c := .ro) trivial) .nil))))) .nil

def zeroLog : Log := ⟨zeroSnap.copied, [], 0, false⟩
def oneLog : Log := ⟨zeroSnap.copied, [oneEntry], 1, false⟩
theorem one_le {p : AV} : ALes [p, .sl 4 [[.v (.int .u64 1), .v (.int .u64 5), .v (.int .i64 0), .v (.slice none 0 0)]] .full] [p, entries [oneEntry]] :=
  .cons (.refl _) (.cons (.trans (.toRo _ _ _) (.sl (.cons (.refl _) (.cons (.refl _) (.cons (.refl _) (.cons (.nilSl 1 (c := .ro) trivial) .nil)))) rfl (by decide))) .nil)

/-- plenum/plenumlaw08.awake -/
def r10 : RCode :=
  (.seq (.region [
    ⟨(some 0), none, .act, .mv (.const (.bool false))⟩])
  (.seq (.region [
    ⟨(some 2), none, .act, .build [(.int .u64 0), (.int .u64 0), (.slice none 0 0), (.slice none 0 0)] []⟩,
    ⟨(some 3), none, .act, .call 13 [(.tmp 2)]⟩,
    ⟨(some 1), none, .act, .mv (.tmp 3)⟩])
  (.seq (.region [
    ⟨(some 4), none, .act, .mv (.tmp 1)⟩,
    ⟨(some 5), none, .act, .call 16 [(.tmp 4)]⟩,
    ⟨(some 6), none, .act, .eq false .int (.tmp 5) (.const (.int .u64 1))⟩,
    ⟨(some 7), none, .act, .mv (.tmp 6)⟩,
    ⟨(some 8), (some (7, true)), .act, .mv (.tmp 1)⟩,
    ⟨(some 9), (some (7, true)), .act, .call 50 [(.tmp 8)]⟩,
    ⟨(some 10), (some (7, true)), .act, .eq false .int (.tmp 9) (.const (.int .u64 0))⟩,
    ⟨(some 11), none, .act, .pick (.tmp 7) (.tmp 10) (.const (.bool false))⟩,
    ⟨(some 12), none, .act, .mv (.tmp 11)⟩,
    ⟨(some 13), (some (12, true)), .act, .mv (.tmp 1)⟩,
    ⟨(some 14), (some (12, true)), .act, .build [(.int .u64 0), (.int .u64 0), (.int .i64 0), (.slice none 0 0)] [(0, 1, (.const (.int .u64 1))), (1, 1, (.const (.int .u64 5)))]⟩,
    ⟨(some 15), (some (12, true)), .act, .buildSl 4 [(.int .u64 0), (.int .u64 0), (.int .i64 0), (.slice none 0 0)] 1 [(0, (.tmp 14))]⟩,
    ⟨(some 16), (some (12, true)), .act, .call 14 [(.tmp 13), (.tmp 15)]⟩,
    ⟨(some 17), (some (12, true)), .act, .eq false .int (.tmp 16) (.const (.int .i64 0))⟩,
    ⟨(some 18), none, .act, .pick (.tmp 12) (.tmp 17) (.const (.bool false))⟩,
    ⟨(some 19), none, .act, .mv (.tmp 18)⟩,
    ⟨(some 20), (some (19, true)), .act, .mv (.tmp 1)⟩,
    ⟨(some 21), (some (19, true)), .act, .call 50 [(.tmp 20)]⟩,
    ⟨(some 22), (some (19, true)), .act, .eq false .int (.tmp 21) (.const (.int .u64 1))⟩,
    ⟨(some 23), none, .act, .pick (.tmp 19) (.tmp 22) (.const (.bool false))⟩,
    ⟨(some 0), none, .act, .mv (.tmp 23)⟩])
  .ret)))
theorem res10 : ∃ c, Try.f10.body = some c ∧ resCode Try.prog 24 c = some r10 := ⟨_, rfl, by kernel_rfl⟩
theorem rr10 : resRes Try.prog Try.f10.results.toList = some [.tmp 0] := by kernel_rfl
theorem awake_spec (h : AHeap) : ACalls Try.prog 10 [] h (fun x h' => x = bl true ∧ h' = h) := by
  obtain ⟨c, hc1, hc2⟩ := res10
  refine ACalls.weak (ACalls.enter Try.func10 hc1 Try.ntmps10 hc2 (Nat.le_of_ble_eq_true rfl) rfl ?_)
  repeat' (first | refine S.nilK ?_ | (refine S.op rfl ?_; first | refine R.mv rfl ?_ | refine R.pickT rfl rfl ?_ | refine R.pickF rfl rfl ?_ | refine R.eqPtrNil rfl rfl ?_ | refine R.build rfl rfl ?_ | refine R.buildSl rfl rfl rfl (by decide) ?_ | ((first | refine S.eqInt rfl rfl ?_ ?_) <;> intro hlt <;> try (exfalso; omega))) | refine S.skip rfl ?_ | refine S.skip0 rfl ?_ | refine S.seq ?_ | refine S.region ?_ | refine S.condT rfl ?_ | refine S.condF rfl ?_ | refine RRun.skip ?_ | refine RRun.block ?_ | refine RRun.inBlock ?_ | refine RRun.exit rfl ?_)
  refine S.op rfl (R.call rfl rfl (ACalls.mono (ACalls.args (new_spec zeroSnap (by decide) (by decide) h) zero_le) ?_))
  rintro x h' ⟨p, hp, rfl, rfl⟩
  have c1 : ACalls Try.prog 16 [ptr p] (h.set p (.box zeroLog.cells)) (fun x h' => x = .v (.int .u64 1) ∧ h' = h.set p (.box zeroLog.cells)) := first_spec zeroLog _ _ (AHeap.set_same _ _ _)
  have c2 : ACalls Try.prog 50 [ptr p] (h.set p (.box zeroLog.cells)) (fun x h' => x = .v (.int .u64 0) ∧ h' = h.set p (.box zeroLog.cells)) := last_spec zeroLog (by decide) _ _ (AHeap.set_same _ _ _)
  have c3 : ACalls Try.prog 14 [ptr p, entries [oneEntry]] (h.set p (.box zeroLog.cells)) (fun x h' => x = .v (.int .i64 0) ∧ h' = h.set p (.box oneLog.cells)) :=
    ACalls.mono (append_spec zeroLog [oneEntry] (by simp [oneEntry]) (by decide) (by decide) (by decide) p _ (AHeap.set_same _ _ _)) (fun x h' hx => ⟨hx.1, by rw [hx.2, AHeap.set_set]; rfl⟩)
  have c4 : ACalls Try.prog 50 [ptr p] (h.set p (.box oneLog.cells)) (fun x h' => x = .v (.int .u64 1) ∧ h' = h.set p (.box oneLog.cells)) := last_spec oneLog (by decide) _ _ (AHeap.set_same _ _ _)
  repeat' (first | refine S.nilK ?_ | (refine S.op rfl ?_; first | refine R.callQ (by decide) rfl c1 ?_ | refine R.callQ (by decide) rfl c2 ?_ | refine R.eqInt rfl rfl ?_ | refine R.mv rfl ?_ | refine R.pickT rfl rfl ?_ | refine R.pickF rfl rfl ?_ | refine R.eqPtrNil rfl rfl ?_ | refine R.build rfl rfl ?_ | refine R.buildSl rfl rfl rfl (by decide) ?_ | ((first | refine S.eqInt rfl rfl ?_ ?_) <;> intro hlt <;> try (exfalso; omega))) | refine S.skip rfl ?_ | refine S.skip0 rfl ?_ | refine S.seq ?_ | refine S.region ?_ | refine S.condT rfl ?_ | refine S.condF rfl ?_ | refine RRun.skip ?_ | refine RRun.block ?_ | refine RRun.inBlock ?_ | refine RRun.exit rfl ?_)
  refine S.op rfl (R.call rfl rfl (ACalls.mono (ACalls.args c3 one_le) ?_))
  rintro x h' ⟨rfl, rfl⟩
  repeat' (first | refine S.nilK ?_ | (refine S.op rfl ?_; first | refine R.callQ (by decide) rfl c4 ?_ | refine R.eqInt rfl rfl ?_ | refine R.mv rfl ?_ | refine R.pickT rfl rfl ?_ | refine R.pickF rfl rfl ?_ | refine R.eqPtrNil rfl rfl ?_ | refine R.build rfl rfl ?_ | refine R.buildSl rfl rfl rfl (by decide) ?_ | ((first | refine S.eqInt rfl rfl ?_ ?_) <;> intro hlt <;> try (exfalso; omega))) | refine S.skip rfl ?_ | refine S.skip0 rfl ?_ | refine S.seq ?_ | refine S.region ?_ | refine S.condT rfl ?_ | refine S.condF rfl ?_ | refine RRun.skip ?_ | refine RRun.block ?_ | refine RRun.inBlock ?_ | refine RRun.exit rfl ?_)
  apply S.ret rr10
  case hx => repeat (first | exact ResAt.nil | apply ResAt.tmp rfl | apply ResAt.cellA rfl (by (repeat' (first | assumption | exact AHeap.set_same _ _ _ | refine AHeap.get_fresh ‹_› ?_ | refine AHeap.so ?_ ?_ | exact AHeap.n1 ‹_› | exact AHeap.n2 ‹_› | exact AHeap.ne_of ‹_› ‹_› | exact AHeap.n4 ‹_› ‹_› | exact AHeap.n5 ‹_› | exact AHeap.n6 ‹_› | exact AHeap.n7 ‹_› ‹_› | exact AHeap.n8 ‹_› ‹_›)); first | done | fail) (by rfl) | apply ResAt.cell1 rfl (by (repeat' (first | assumption | exact AHeap.set_same _ _ _ | refine AHeap.get_fresh ‹_› ?_ | refine AHeap.so ?_ ?_ | exact AHeap.n1 ‹_› | exact AHeap.n2 ‹_› | exact AHeap.ne_of ‹_› ‹_› | exact AHeap.n4 ‹_› ‹_› | exact AHeap.n5 ‹_› | exact AHeap.n6 ‹_› | exact AHeap.n7 ‹_› ‹_› | exact AHeap.n8 ‹_› ‹_›)); first | done | fail) (by rfl))
  exact ⟨_, _, .refl _, (AHeap.le.refl h).set _ hp, rfl, rfl⟩

end Go.Proofs.Ytnmgamcmjjngcaa
