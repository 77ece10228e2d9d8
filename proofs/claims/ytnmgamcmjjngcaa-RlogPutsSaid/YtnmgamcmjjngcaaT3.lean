import Derived.Test.YtnmgamcmjjngcaaAvN
import Derived.Test.YtnmgamcmjjngcaaT2
set_option linter.unusedVariables false
set_option linter.unusedSimpArgs false
namespace Go.Proofs.Ytnmgamcmjjngcaa
open Go.Av

def Log.cellsC (L : Log) (es : List Entry) (c : Cap) : List AV := [u64 L.s.index, u64 L.s.term, u64s L.s.members, bys L.s.data, .sl 4 (es.map Entry.cells) c, u64 L.dirty, bl L.fresh]

theorem Entry.one (e : Entry) : ∀ z ∈ [e.cells], ∀ a ∈ z, a.one = true := by
  intro z hz a ha
  simp only [List.mem_singleton] at hz
  subst hz
  simp only [Entry.cells, List.mem_cons, List.not_mem_nil, or_false] at ha
  rcases ha with rfl | rfl | rfl | rfl <;> rfl

theorem take_succ_map (xs e : List Entry) (i : Nat) (h : i < e.length) : (xs ++ e.take i).map Entry.cells ++ [e[i].cells] = (xs ++ e.take (i + 1)).map Entry.cells := by
  rw [List.take_succ_eq_append_getElem h, ← List.append_assoc, List.map_append (l₁ := xs ++ _)]; rfl

def r14l0 : RCode :=
  (.seq (.region [
    ⟨(some 54), none, .act, .bin .lss (.tmp 53) (.tmp 52)⟩])
  (.seq (.cond (.tmp 54)
   .skip
   (.exit 0))
  (.seq (.block 1
   (.seq (.region [
     ⟨(some 55), none, .act, .indexAddr 4 (.tmp 51) (.tmp 53)⟩,
     ⟨(some 56), none, .act, .load true 4 (.tmp 55)⟩,
     ⟨(some 8), none, .act, .alloc [(.int .u64 0), (.int .u64 0), (.int .i64 0), (.slice none 0 0)]⟩,
     ⟨none, none, .act, .store 4 (.tmp 8) (.tmp 56)⟩])
   (.region [
     ⟨(some 57), none, .pure, .mv (.tmp 0)⟩,
     ⟨(some 58), none, .pure, .mv (.tmp 0)⟩,
     ⟨(some 59), none, .pure, .nilCheck (.tmp 58)⟩,
     ⟨(some 60), none, .pure, .fieldAddr 4 (.tmp 59)⟩,
     ⟨(some 61), none, .read, .load false 1 (.tmp 60)⟩,
     ⟨(some 62), none, .read, .load true 4 (.tmp 8)⟩,
     ⟨(some 63), none, .read, .call 53 [(.tmp 62)]⟩,
     ⟨(some 64), none, .pure, .buildSl 4 [(.int .u64 0), (.int .u64 0), (.int .i64 0), (.slice none 0 0)] 1 [(0, (.tmp 63))]⟩,
     ⟨(some 65), none, .act, .append 4 48 [(.int .u64 0), (.int .u64 0), (.int .i64 0), (.slice none 0 0)] (.tmp 61) (.tmp 64)⟩,
     ⟨(some 66), none, .pure, .nilCheck (.tmp 57)⟩,
     ⟨(some 67), none, .pure, .fieldAddr 4 (.tmp 66)⟩,
     ⟨none, none, .act, .store 1 (.tmp 67) (.tmp 65)⟩])))
  (.region [
    ⟨(some 68), none, .act, .bin .add (.tmp 53) (.const (.int .i64 1))⟩,
    ⟨(some 53), none, .act, .mv (.tmp 68)⟩]))))
/-- (*plenum/rlog.Log).Append -/
def r14 : RCode :=
  (.seq (.region [
    ⟨(some 4), none, .act, .mv (.const (.int .i64 0))⟩])
  (.seq (.seq (.region [
    ⟨(some 9), none, .act, .mv (.tmp 1)⟩,
    ⟨(some 10), none, .act, .len (.tmp 9)⟩,
    ⟨(some 11), none, .act, .eq false .int (.tmp 10) (.const (.int .i64 0))⟩])
  (.cond (.tmp 11)
   (.seq (.region [
     ⟨(some 4), none, .act, .mv (.const (.int .i64 0))⟩])
   .ret)
   .skip))
  (.seq (.region [
    ⟨(some 12), none, .act, .mv (.tmp 1)⟩,
    ⟨(some 13), none, .act, .indexAddr 4 (.tmp 12) (.const (.int .i64 0))⟩,
    ⟨(some 14), none, .act, .fieldAddr 0 (.tmp 13)⟩,
    ⟨(some 15), none, .act, .load false 1 (.tmp 14)⟩,
    ⟨(some 5), none, .act, .mv (.tmp 15)⟩])
  (.seq (.seq (.region [
    ⟨(some 16), none, .act, .mv (.tmp 0)⟩,
    ⟨(some 17), none, .act, .eq false .ptr (.tmp 16) (.const (.pointer none))⟩,
    ⟨(some 18), none, .act, .mv (.tmp 17)⟩,
    ⟨(some 19), (some (18, false)), .act, .mv (.tmp 1)⟩,
    ⟨(some 20), (some (18, false)), .act, .call 52 [(.tmp 19)]⟩,
    ⟨(some 21), (some (18, false)), .act, .un .not (.tmp 20)⟩,
    ⟨(some 22), none, .act, .pick (.tmp 18) (.const (.bool true)) (.tmp 21)⟩,
    ⟨(some 23), none, .act, .mv (.tmp 22)⟩,
    ⟨(some 24), (some (23, false)), .act, .mv (.tmp 5)⟩,
    ⟨(some 25), (some (23, false)), .act, .mv (.tmp 0)⟩,
    ⟨(some 26), (some (23, false)), .act, .call 16 [(.tmp 25)]⟩,
    ⟨(some 27), (some (23, false)), .act, .bin .lss (.tmp 24) (.tmp 26)⟩,
    ⟨(some 28), none, .act, .pick (.tmp 23) (.const (.bool true)) (.tmp 27)⟩,
    ⟨(some 29), none, .act, .mv (.tmp 28)⟩,
    ⟨(some 30), (some (29, false)), .act, .mv (.tmp 5)⟩,
    ⟨(some 31), (some (29, false)), .act, .bin .sub (.tmp 30) (.const (.int .u64 1))⟩,
    ⟨(some 32), (some (29, false)), .act, .mv (.tmp 0)⟩,
    ⟨(some 33), (some (29, false)), .act, .call 50 [(.tmp 32)]⟩,
    ⟨(some 34), (some (29, false)), .act, .bin .gtr (.tmp 31) (.tmp 33)⟩,
    ⟨(some 35), none, .act, .pick (.tmp 29) (.const (.bool true)) (.tmp 34)⟩])
  (.cond (.tmp 35)
   (.seq (.region [
     ⟨(some 4), none, .act, .mv (.const (.int .i64 80))⟩])
   .ret)
   .skip))
  (.seq (.region [
    ⟨(some 36), none, .act, .mv (.tmp 5)⟩,
    ⟨(some 37), none, .act, .mv (.tmp 0)⟩,
    ⟨(some 38), none, .act, .call 16 [(.tmp 37)]⟩,
    ⟨(some 39), none, .act, .bin .sub (.tmp 36) (.tmp 38)⟩,
    ⟨(some 40), none, .act, .convInt .i64 (.tmp 39)⟩,
    ⟨(some 6), none, .act, .mv (.tmp 40)⟩])
  (.seq (.region [
    ⟨(some 41), none, .act, .mv (.tmp 0)⟩,
    ⟨(some 42), none, .act, .mv (.tmp 0)⟩,
    ⟨(some 43), none, .act, .nilCheck (.tmp 42)⟩,
    ⟨(some 44), none, .act, .fieldAddr 4 (.tmp 43)⟩,
    ⟨(some 45), none, .act, .load false 1 (.tmp 44)⟩,
    ⟨(some 46), none, .act, .mv (.tmp 6)⟩,
    ⟨(some 47), none, .act, .mv (.tmp 6)⟩,
    ⟨(some 48), none, .act, .sliceSl 4 (.tmp 45) none (some (.tmp 46)) (some (.tmp 47))⟩,
    ⟨(some 49), none, .act, .nilCheck (.tmp 41)⟩,
    ⟨(some 50), none, .act, .fieldAddr 4 (.tmp 49)⟩,
    ⟨none, none, .act, .store 1 (.tmp 50) (.tmp 48)⟩])
  (.seq (.seq (.region [
    ⟨(some 51), none, .act, .mv (.tmp 1)⟩,
    ⟨(some 52), none, .act, .len (.tmp 51)⟩,
    ⟨(some 53), none, .act, .mv (.const (.int .i64 0))⟩])
  (.block 0
   (.loop r14l0)))
  (.seq (.seq (.region [
    ⟨(some 69), none, .act, .mv (.tmp 0)⟩,
    ⟨(some 70), none, .act, .nilCheck (.tmp 69)⟩,
    ⟨(some 71), none, .act, .fieldAddr 5 (.tmp 70)⟩,
    ⟨(some 72), none, .act, .load false 1 (.tmp 71)⟩,
    ⟨(some 73), none, .act, .eq false .int (.tmp 72) (.const (.int .u64 0))⟩,
    ⟨(some 74), none, .act, .mv (.tmp 73)⟩,
    ⟨(some 75), (some (74, false)), .act, .mv (.tmp 5)⟩,
    ⟨(some 76), (some (74, false)), .act, .mv (.tmp 0)⟩,
    ⟨(some 77), (some (74, false)), .act, .nilCheck (.tmp 76)⟩,
    ⟨(some 78), (some (74, false)), .act, .fieldAddr 5 (.tmp 77)⟩,
    ⟨(some 79), (some (74, false)), .act, .load false 1 (.tmp 78)⟩,
    ⟨(some 80), (some (74, false)), .act, .bin .lss (.tmp 75) (.tmp 79)⟩,
    ⟨(some 81), none, .act, .pick (.tmp 74) (.const (.bool true)) (.tmp 80)⟩])
  (.cond (.tmp 81)
   (.region [
     ⟨(some 82), none, .act, .mv (.tmp 0)⟩,
     ⟨(some 83), none, .act, .mv (.tmp 5)⟩,
     ⟨(some 84), none, .act, .nilCheck (.tmp 82)⟩,
     ⟨(some 85), none, .act, .fieldAddr 5 (.tmp 84)⟩,
     ⟨none, none, .act, .store 1 (.tmp 85) (.tmp 83)⟩])
   .skip))
  (.seq (.region [
    ⟨(some 4), none, .act, .mv (.const (.int .i64 0))⟩])
  .ret)))))))))
theorem res14 : ∃ c, Try.f14.body = some c ∧ resCode Try.prog 86 c = some r14 := ⟨_, rfl, by kernel_rfl⟩
theorem rr14 : resRes Try.prog Try.f14.results.toList = some [.tmp 4] := by kernel_rfl
theorem append_loop (L : Log) (p : Nat) (e : List Entry) (at' : UInt64) (he : ∀ x ∈ e, x.data.length ≤ 140737488355328) (xs : List Entry) (hl : xs.length + e.length ≤ 1099511627776) (h₀ : AHeap) (h0p : h₀ p = none) (k : List RT) (Q : AV → AHeap → Prop)
    (hk : ∀ h c, Grow h₀ h c → h p = some (.box (L.cellsC (xs ++ e) c)) → RRun Try.prog Try.f14 86 k (Env.get [(0, ptr p), (5, u64 at')]) h Q) (m : Nat) :
    ∀ (i : Nat) (h : AHeap) (c : Cap), i + m = e.length → Grow h₀ h c → h p = some (.box (L.cellsC (xs ++ e.take i) c)) →
      RRun Try.prog Try.f14 86 (.inLoop r14l0 :: .inBlock 0 :: k) (Env.get [(53, i64 i), (52, i64 e.length), (51, entries e), (0, ptr p), (5, u64 at')]) h Q := by
  induction m with
  | zero =>
    intro i h c hi hg hp
    refine RRun.inLoop ?_
    repeat' (first | refine S.nilK ?_ | (refine S.op rfl ?_; first | refine R.mv rfl ?_ | refine R.fieldAddr rfl ?_ | refine R.fieldAddrR rfl ?_ | refine R.nilCheck rfl ?_ | refine R.nilCheckR rfl ?_ | refine R.loadR rfl rfl ?_ | refine R.load (by decide) rfl (by (repeat' (first | assumption | exact AHeap.set_same _ _ _ | refine AHeap.get_fresh ‹_› ?_ | refine AHeap.so ?_ ?_ | exact AHeap.n1 ‹_› | exact AHeap.n2 ‹_› | exact AHeap.ne_of ‹_› ‹_› | exact AHeap.n4 ‹_› ‹_› | exact AHeap.n5 ‹_› | exact AHeap.n6 ‹_› | exact AHeap.n7 ‹_› ‹_› | exact AHeap.n8 ‹_› ‹_›)); first | done | fail) rfl ?_ | refine S.addI rfl rfl (by omega) ?_ | refine S.subI rfl rfl (by omega) ?_ | refine S.addU rfl rfl ?_ | refine S.subU rfl rfl ?_ | refine S.addUc rfl (by decide) ?_ | refine S.subUc rfl (by decide) ?_ | refine R.pickT rfl rfl ?_ | refine R.pickF rfl rfl ?_ | refine R.len rfl ?_ | refine R.lenA rfl ?_ | refine R.lenStr rfl ?_ | refine S.convIU rfl (by omega) ?_ | refine S.convUI rfl (by omega) ?_ | refine R.convInt rfl ?_ | refine R.not rfl ?_ | refine R.eqPtrNil rfl rfl ?_ | refine R.alloc rfl (fun b hb => ?_) | refine R.buildSl rfl rfl rfl (by decide) ?_ | ((first | refine S.lss rfl rfl ?_ ?_ | refine S.gtr rfl rfl ?_ ?_ | refine S.eqInt rfl rfl ?_ ?_) <;> intro hlt <;> try (exfalso; omega))) | (refine S.op0 rfl ?_; first | refine S.storeS rfl rfl rfl (by rfl) rfl (by first | decide | exact Nat.le_refl _ | exact Nat.le_of_ble_eq_true rfl) ?_ | refine S.store rfl rfl (by (repeat' (first | assumption | exact AHeap.set_same _ _ _ | refine AHeap.get_fresh ‹_› ?_ | refine AHeap.so ?_ ?_ | exact AHeap.n1 ‹_› | exact AHeap.n2 ‹_› | exact AHeap.ne_of ‹_› ‹_› | exact AHeap.n4 ‹_› ‹_› | exact AHeap.n5 ‹_› | exact AHeap.n6 ‹_› | exact AHeap.n7 ‹_› ‹_› | exact AHeap.n8 ‹_› ‹_›)); first | done | fail) rfl rfl rfl (by rfl) rfl ?_) | refine S.skip rfl ?_ | refine S.skip0 rfl ?_ | refine S.seq ?_ | refine S.region ?_ | refine S.condT rfl ?_ | refine S.condF rfl ?_ | refine RRun.skip ?_ | refine RRun.block ?_ | refine RRun.inBlock ?_ | refine RRun.exit rfl ?_)
    rw [show e.take i = e from List.take_of_length_le (by omega)] at hp
    exact S.keep [0, 5] rfl (hk h c hg hp)
  | succ m ih =>
    intro i h c hi hg hp
    have hie : i < e.length := by omega
    have h1 : (e.map Entry.cells)[((i : Nat) : Int).toNat]? = some e[i].cells := by simp [hie]
    have hown := own_spec e[i] (he _ (List.getElem_mem hie))
    have hlen : ((xs ++ e.take i).map Entry.cells).length = xs.length + i := by simp; omega
    refine RRun.inLoop ?_
    repeat' (first | refine S.nilK ?_ | (refine S.op rfl ?_; first | refine R.indexAddr rfl rfl (by omega) h1 ?_ | refine R.callQ (by decide) rfl (hown _) ?_ | refine R.mv rfl ?_ | refine R.fieldAddr rfl ?_ | refine R.fieldAddrR rfl ?_ | refine R.nilCheck rfl ?_ | refine R.nilCheckR rfl ?_ | refine R.loadR rfl rfl ?_ | refine R.load (by decide) rfl (by (repeat' (first | assumption | exact AHeap.set_same _ _ _ | refine AHeap.get_fresh ‹_› ?_ | refine AHeap.so ?_ ?_ | exact AHeap.n1 ‹_› | exact AHeap.n2 ‹_› | exact AHeap.ne_of ‹_› ‹_› | exact AHeap.n4 ‹_› ‹_› | exact AHeap.n5 ‹_› | exact AHeap.n6 ‹_› | exact AHeap.n7 ‹_› ‹_› | exact AHeap.n8 ‹_› ‹_›)); first | done | fail) rfl ?_ | refine S.addI rfl rfl (by omega) ?_ | refine S.subI rfl rfl (by omega) ?_ | refine S.addU rfl rfl ?_ | refine S.subU rfl rfl ?_ | refine S.addUc rfl (by decide) ?_ | refine S.subUc rfl (by decide) ?_ | refine R.pickT rfl rfl ?_ | refine R.pickF rfl rfl ?_ | refine R.len rfl ?_ | refine R.lenA rfl ?_ | refine R.lenStr rfl ?_ | refine S.convIU rfl (by omega) ?_ | refine S.convUI rfl (by omega) ?_ | refine R.convInt rfl ?_ | refine R.not rfl ?_ | refine R.eqPtrNil rfl rfl ?_ | refine R.alloc rfl (fun b hb => ?_) | refine R.buildSl rfl rfl rfl (by decide) ?_ | ((first | refine S.lss rfl rfl ?_ ?_ | refine S.gtr rfl rfl ?_ ?_ | refine S.eqInt rfl rfl ?_ ?_) <;> intro hlt <;> try (exfalso; omega))) | (refine S.op0 rfl ?_; first | refine S.storeS rfl rfl rfl (by rfl) rfl (by first | decide | exact Nat.le_refl _ | exact Nat.le_of_ble_eq_true rfl) ?_ | refine S.store rfl rfl (by (repeat' (first | assumption | exact AHeap.set_same _ _ _ | refine AHeap.get_fresh ‹_› ?_ | refine AHeap.so ?_ ?_ | exact AHeap.n1 ‹_› | exact AHeap.n2 ‹_› | exact AHeap.ne_of ‹_› ‹_› | exact AHeap.n4 ‹_› ‹_› | exact AHeap.n5 ‹_› | exact AHeap.n6 ‹_› | exact AHeap.n7 ‹_› ‹_› | exact AHeap.n8 ‹_› ‹_›)); first | done | fail) rfl rfl rfl (by rfl) rfl ?_) | refine S.skip rfl ?_ | refine S.skip0 rfl ?_ | refine S.seq ?_ | refine S.region ?_ | refine S.condT rfl ?_ | refine S.condF rfl ?_ | refine RRun.skip ?_ | refine RRun.block ?_ | refine RRun.inBlock ?_ | refine RRun.exit rfl ?_)
    refine S.op rfl (S.appendG rfl ((hg.base _ (by assumption)).setBox _ (AHeap.set_same _ _ _) (hg.le.none (by assumption))) rfl (.sl _ _) rfl (.sl [e[i].cells] _) (Entry.one _) ?_ ?_ (fun c' h' hg' hbox => ?_))
    · rw [hlen]; simp; omega
    · rw [hlen]; simp; omega
    have hp' := hbox p _ (by (repeat' (first | assumption | exact AHeap.set_same _ _ _ | refine AHeap.get_fresh ‹_› ?_ | refine AHeap.so ?_ ?_ | exact AHeap.n1 ‹_› | exact AHeap.n2 ‹_› | exact AHeap.ne_of ‹_› ‹_› | exact AHeap.n4 ‹_› ‹_› | exact AHeap.n5 ‹_› | exact AHeap.n6 ‹_› | exact AHeap.n7 ‹_› ‹_› | exact AHeap.n8 ‹_› ‹_›)); first | done | fail)
    repeat' (first | refine S.nilK ?_ | (refine S.op rfl ?_; first | refine R.mv rfl ?_ | refine R.fieldAddr rfl ?_ | refine R.fieldAddrR rfl ?_ | refine R.nilCheck rfl ?_ | refine R.nilCheckR rfl ?_ | refine R.loadR rfl rfl ?_ | refine R.load (by decide) rfl (by (repeat' (first | assumption | exact AHeap.set_same _ _ _ | refine AHeap.get_fresh ‹_› ?_ | refine AHeap.so ?_ ?_ | exact AHeap.n1 ‹_› | exact AHeap.n2 ‹_› | exact AHeap.ne_of ‹_› ‹_› | exact AHeap.n4 ‹_› ‹_› | exact AHeap.n5 ‹_› | exact AHeap.n6 ‹_› | exact AHeap.n7 ‹_› ‹_› | exact AHeap.n8 ‹_› ‹_›)); first | done | fail) rfl ?_ | refine S.addI rfl rfl (by omega) ?_ | refine S.subI rfl rfl (by omega) ?_ | refine S.addU rfl rfl ?_ | refine S.subU rfl rfl ?_ | refine S.addUc rfl (by decide) ?_ | refine S.subUc rfl (by decide) ?_ | refine R.pickT rfl rfl ?_ | refine R.pickF rfl rfl ?_ | refine R.len rfl ?_ | refine R.lenA rfl ?_ | refine R.lenStr rfl ?_ | refine S.convIU rfl (by omega) ?_ | refine S.convUI rfl (by omega) ?_ | refine R.convInt rfl ?_ | refine R.not rfl ?_ | refine R.eqPtrNil rfl rfl ?_ | refine R.alloc rfl (fun b hb => ?_) | refine R.buildSl rfl rfl rfl (by decide) ?_ | ((first | refine S.lss rfl rfl ?_ ?_ | refine S.gtr rfl rfl ?_ ?_ | refine S.eqInt rfl rfl ?_ ?_) <;> intro hlt <;> try (exfalso; omega))) | (refine S.op0 rfl ?_; first | refine S.storeS rfl rfl rfl (by rfl) rfl (by first | decide | exact Nat.le_refl _ | exact Nat.le_of_ble_eq_true rfl) ?_ | refine S.store rfl rfl (by (repeat' (first | assumption | exact AHeap.set_same _ _ _ | refine AHeap.get_fresh ‹_› ?_ | refine AHeap.so ?_ ?_ | exact AHeap.n1 ‹_› | exact AHeap.n2 ‹_› | exact AHeap.ne_of ‹_› ‹_› | exact AHeap.n4 ‹_› ‹_› | exact AHeap.n5 ‹_› | exact AHeap.n6 ‹_› | exact AHeap.n7 ‹_› ‹_› | exact AHeap.n8 ‹_› ‹_›)); first | done | fail) rfl rfl rfl (by rfl) rfl ?_) | refine S.skip rfl ?_ | refine S.skip0 rfl ?_ | refine S.seq ?_ | refine S.region ?_ | refine S.condT rfl ?_ | refine S.condF rfl ?_ | refine RRun.skip ?_ | refine RRun.block ?_ | refine RRun.inBlock ?_ | refine RRun.exit rfl ?_)
    rw [take_succ_map xs e i hie, show ((i : Int) + 1) = ((i + 1 : Nat) : Int) by omega]
    exact S.keep [53, 52, 51, 0, 5] rfl (ih (i + 1) _ c' (by omega) (hg'.setBox _ hp' h0p) (AHeap.set_same _ _ _))

/-- What Append does. -/
def Log.append (L : Log) (e : List Entry) : Log × Int :=
  match e with
  | [] => (L, 0)
  | x :: r =>
    if follow (x :: r) = true ∧ L.s.index + 1 ≤ x.index ∧ x.index - 1 ≤ L.s.index + UInt64.ofNat L.l.length then
      ({ L with l := L.l.take (x.index - (L.s.index + 1)).toNat ++ (x :: r), dirty := if L.dirty = 0 ∨ x.index < L.dirty then x.index else L.dirty }, 0)
    else (L, 80)

theorem Log.append_good (L : Log) (x : Entry) (r : List Entry) (hf : follow (x :: r) = true) (hA : L.s.index + 1 ≤ x.index) (hB : x.index - 1 ≤ L.s.index + UInt64.ofNat L.l.length) :
    L.append (x :: r) = ({ L with l := L.l.take (x.index - (L.s.index + 1)).toNat ++ (x :: r), dirty := if L.dirty = 0 ∨ x.index < L.dirty then x.index else L.dirty }, 0) := by
  rw [Log.append, if_pos ⟨hf, hA, hB⟩]

theorem cellsC_le (L : Log) (es : List Entry) (c : Cap) : ALes (L.cellsC es c) (Log.cells { L with l := es }) :=
  .cons (.refl _) (.cons (.refl _) (.cons (.refl _) (.cons (.refl _) (.cons (.toRo _ _ _) (.cons (.refl _) (.cons (.refl _) .nil))))))

theorem far_le {a : UInt64} (h : a ≤ far) : a.toNat ≤ 9223372036854775807 := Nat.le_trans (UInt64.le_iff_toNat_le.1 h) (by decide)

theorem place_le {a x : UInt64} {n : Nat} (h3 : a.toNat ≤ 9223372036854775807) (hn : n ≤ 549755813888) (hA : a + 1 ≤ x) (hB : x - 1 ≤ a + UInt64.ofNat n) : (x - (a + 1)).toNat ≤ n := by
  have h1 := UInt64.le_iff_toNat_le.1 hA
  have h2 := UInt64.le_iff_toNat_le.1 hB
  have h5 : (UInt64.ofNat n).toNat = n := UInt64.toNat_ofNat_of_lt' (by simp only [UInt64.size]; omega)
  have hx := x.toNat_lt
  simp only [UInt64.toNat_add, UInt64.toNat_sub, UInt64.toNat_ofNat, h5] at h1 h2 ⊢
  simp at h1 h2 ⊢
  omega

theorem append_spec (L : Log) (e : List Entry) (he : ∀ x ∈ e, x.data.length ≤ 140737488355328) (hi : L.s.index.toNat ≤ 9223372036854775807) (hl : L.l.length ≤ 549755813888) (hle : e.length ≤ 549755813888) (p : Nat) (h : AHeap) (hp : h p = some (.box L.cells)) :
    ACalls Try.prog 14 [ptr p, entries e] h (fun x h' => x = i64 (L.append e).2 ∧ h' = h.set p (.box (L.append e).1.cells)) := by
  have hlen : (L.l.map Entry.cells).length = L.l.length := by simp
  have hlene : (e.map Entry.cells).length = e.length := by simp
  have hfirst := first_spec L p h hp
  have hlast := last_spec L (by omega) p h hp
  have hfollow := follow_spec e (by omega) h
  obtain ⟨c, hc1, hc2⟩ := res14
  refine ACalls.weak (ACalls.enter Try.func14 hc1 Try.ntmps14 hc2 (Nat.le_of_ble_eq_true rfl) rfl ?_)
  match e, he, hle, hlene, hfollow with
  | [], he, hle, hlene, hfollow =>
    have hz : (([] : List Entry).map Entry.cells).length = 0 := rfl
    repeat' (first | refine S.nilK ?_ | (refine S.op rfl ?_; first | refine R.mv rfl ?_ | refine R.fieldAddr rfl ?_ | refine R.fieldAddrR rfl ?_ | refine R.nilCheck rfl ?_ | refine R.nilCheckR rfl ?_ | refine R.loadR rfl rfl ?_ | refine R.load (by decide) rfl (by (repeat' (first | assumption | exact AHeap.set_same _ _ _ | refine AHeap.get_fresh ‹_› ?_ | refine AHeap.so ?_ ?_ | exact AHeap.n1 ‹_› | exact AHeap.n2 ‹_› | exact AHeap.ne_of ‹_› ‹_› | exact AHeap.n4 ‹_› ‹_› | exact AHeap.n5 ‹_› | exact AHeap.n6 ‹_› | exact AHeap.n7 ‹_› ‹_› | exact AHeap.n8 ‹_› ‹_›)); first | done | fail) rfl ?_ | refine S.addI rfl rfl (by omega) ?_ | refine S.subI rfl rfl (by omega) ?_ | refine S.addU rfl rfl ?_ | refine S.subU rfl rfl ?_ | refine S.addUc rfl (by decide) ?_ | refine S.subUc rfl (by decide) ?_ | refine R.pickT rfl rfl ?_ | refine R.pickF rfl rfl ?_ | refine R.len rfl ?_ | refine R.lenA rfl ?_ | refine R.lenStr rfl ?_ | refine S.convIU rfl (by omega) ?_ | refine S.convUI rfl (by omega) ?_ | refine R.convInt rfl ?_ | refine R.not rfl ?_ | refine R.eqPtrNil rfl rfl ?_ | refine R.alloc rfl (fun b hb => ?_) | refine R.buildSl rfl rfl rfl (by decide) ?_ | ((first | refine S.lss rfl rfl ?_ ?_ | refine S.gtr rfl rfl ?_ ?_ | refine S.eqInt rfl rfl ?_ ?_) <;> intro hlt <;> try (exfalso; omega))) | (refine S.op0 rfl ?_; first | refine S.storeS rfl rfl rfl (by rfl) rfl (by first | decide | exact Nat.le_refl _ | exact Nat.le_of_ble_eq_true rfl) ?_ | refine S.store rfl rfl (by (repeat' (first | assumption | exact AHeap.set_same _ _ _ | refine AHeap.get_fresh ‹_› ?_ | refine AHeap.so ?_ ?_ | exact AHeap.n1 ‹_› | exact AHeap.n2 ‹_› | exact AHeap.ne_of ‹_› ‹_› | exact AHeap.n4 ‹_› ‹_› | exact AHeap.n5 ‹_› | exact AHeap.n6 ‹_› | exact AHeap.n7 ‹_› ‹_› | exact AHeap.n8 ‹_› ‹_›)); first | done | fail) rfl rfl rfl (by rfl) rfl ?_) | refine S.skip rfl ?_ | refine S.skip0 rfl ?_ | refine S.seq ?_ | refine S.region ?_ | refine S.condT rfl ?_ | refine S.condF rfl ?_ | refine RRun.skip ?_ | refine RRun.block ?_ | refine RRun.inBlock ?_ | refine RRun.exit rfl ?_)
    apply S.ret rr14
    case hx => repeat (first | exact ResAt.nil | apply ResAt.tmp rfl | apply ResAt.cellA rfl (by (repeat' (first | assumption | exact AHeap.set_same _ _ _ | refine AHeap.get_fresh ‹_› ?_ | refine AHeap.so ?_ ?_ | exact AHeap.n1 ‹_› | exact AHeap.n2 ‹_› | exact AHeap.ne_of ‹_› ‹_› | exact AHeap.n4 ‹_› ‹_› | exact AHeap.n5 ‹_› | exact AHeap.n6 ‹_› | exact AHeap.n7 ‹_› ‹_› | exact AHeap.n8 ‹_› ‹_›)); first | done | fail) (by rfl) | apply ResAt.cell1 rfl (by (repeat' (first | assumption | exact AHeap.set_same _ _ _ | refine AHeap.get_fresh ‹_› ?_ | refine AHeap.so ?_ ?_ | exact AHeap.n1 ‹_› | exact AHeap.n2 ‹_› | exact AHeap.ne_of ‹_› ‹_› | exact AHeap.n4 ‹_› ‹_› | exact AHeap.n5 ‹_› | exact AHeap.n6 ‹_› | exact AHeap.n7 ‹_› ‹_› | exact AHeap.n8 ‹_› ‹_›)); first | done | fail) (by rfl))
    refine ⟨_, _, .refl _, ?_, rfl, rfl⟩
    rw [show (L.append []).1 = L from rfl, AHeap.set_eq h hp]
    exact .refl _
  | x :: r, he, hle, hlene, hfollow =>
    have h0 : ((x :: r).map Entry.cells)[(0 : Int).toNat]? = some x.cells := rfl
    have hpos : 0 < ((x :: r).map Entry.cells).length := by simp
    cases hf : follow (x :: r) with
    | false =>
      rw [hf] at hfollow
      repeat' (first | refine S.nilK ?_ | (refine S.op rfl ?_; first | refine R.indexAddr rfl rfl (by omega) h0 ?_ | refine R.callQ (by decide) rfl hfirst ?_ | refine R.callQ (by decide) rfl hlast ?_ | refine R.callQ (by decide) rfl hfollow ?_ | refine R.mv rfl ?_ | refine R.fieldAddr rfl ?_ | refine R.fieldAddrR rfl ?_ | refine R.nilCheck rfl ?_ | refine R.nilCheckR rfl ?_ | refine R.loadR rfl rfl ?_ | refine R.load (by decide) rfl (by (repeat' (first | assumption | exact AHeap.set_same _ _ _ | refine AHeap.get_fresh ‹_› ?_ | refine AHeap.so ?_ ?_ | exact AHeap.n1 ‹_› | exact AHeap.n2 ‹_› | exact AHeap.ne_of ‹_› ‹_› | exact AHeap.n4 ‹_› ‹_› | exact AHeap.n5 ‹_› | exact AHeap.n6 ‹_› | exact AHeap.n7 ‹_› ‹_› | exact AHeap.n8 ‹_› ‹_›)); first | done | fail) rfl ?_ | refine S.addI rfl rfl (by omega) ?_ | refine S.subI rfl rfl (by omega) ?_ | refine S.addU rfl rfl ?_ | refine S.subU rfl rfl ?_ | refine S.addUc rfl (by decide) ?_ | refine S.subUc rfl (by decide) ?_ | refine R.pickT rfl rfl ?_ | refine R.pickF rfl rfl ?_ | refine R.len rfl ?_ | refine R.lenA rfl ?_ | refine R.lenStr rfl ?_ | refine S.convIU rfl (by omega) ?_ | refine S.convUI rfl (by omega) ?_ | refine R.convInt rfl ?_ | refine R.not rfl ?_ | refine R.eqPtrNil rfl rfl ?_ | refine R.alloc rfl (fun b hb => ?_) | refine R.buildSl rfl rfl rfl (by decide) ?_ | ((first | refine S.lss rfl rfl ?_ ?_ | refine S.gtr rfl rfl ?_ ?_ | refine S.eqInt rfl rfl ?_ ?_) <;> intro hlt <;> try (exfalso; omega))) | (refine S.op0 rfl ?_; first | refine S.storeS rfl rfl rfl (by rfl) rfl (by first | decide | exact Nat.le_refl _ | exact Nat.le_of_ble_eq_true rfl) ?_ | refine S.store rfl rfl (by (repeat' (first | assumption | exact AHeap.set_same _ _ _ | refine AHeap.get_fresh ‹_› ?_ | refine AHeap.so ?_ ?_ | exact AHeap.n1 ‹_› | exact AHeap.n2 ‹_› | exact AHeap.ne_of ‹_› ‹_› | exact AHeap.n4 ‹_› ‹_› | exact AHeap.n5 ‹_› | exact AHeap.n6 ‹_› | exact AHeap.n7 ‹_› ‹_› | exact AHeap.n8 ‹_› ‹_›)); first | done | fail) rfl rfl rfl (by rfl) rfl ?_) | refine S.skip rfl ?_ | refine S.skip0 rfl ?_ | refine S.seq ?_ | refine S.region ?_ | refine S.condT rfl ?_ | refine S.condF rfl ?_ | refine RRun.skip ?_ | refine RRun.block ?_ | refine RRun.inBlock ?_ | refine RRun.exit rfl ?_)
      apply S.ret rr14
      case hx => repeat (first | exact ResAt.nil | apply ResAt.tmp rfl | apply ResAt.cellA rfl (by (repeat' (first | assumption | exact AHeap.set_same _ _ _ | refine AHeap.get_fresh ‹_› ?_ | refine AHeap.so ?_ ?_ | exact AHeap.n1 ‹_› | exact AHeap.n2 ‹_› | exact AHeap.ne_of ‹_› ‹_› | exact AHeap.n4 ‹_› ‹_› | exact AHeap.n5 ‹_› | exact AHeap.n6 ‹_› | exact AHeap.n7 ‹_› ‹_› | exact AHeap.n8 ‹_› ‹_›)); first | done | fail) (by rfl) | apply ResAt.cell1 rfl (by (repeat' (first | assumption | exact AHeap.set_same _ _ _ | refine AHeap.get_fresh ‹_› ?_ | refine AHeap.so ?_ ?_ | exact AHeap.n1 ‹_› | exact AHeap.n2 ‹_› | exact AHeap.ne_of ‹_› ‹_› | exact AHeap.n4 ‹_› ‹_› | exact AHeap.n5 ‹_› | exact AHeap.n6 ‹_› | exact AHeap.n7 ‹_› ‹_› | exact AHeap.n8 ‹_› ‹_›)); first | done | fail) (by rfl))
      refine ⟨_, _, .refl _, ?_, ?_, rfl⟩
      · rw [Log.append, if_neg (by simp [hf]), AHeap.set_eq h hp]; exact .refl _
      · rw [Log.append, if_neg (by simp [hf])]; rfl
    | true =>
      rw [hf] at hfollow
      by_cases hc : L.s.index + 1 ≤ x.index ∧ x.index - 1 ≤ L.s.index + UInt64.ofNat L.l.length
      · obtain ⟨hA, hB⟩ := hc
        have hn := place_le hi hl hA hB
        have hA' := UInt64.le_iff_toNat_le.1 hA
        have hB' := UInt64.le_iff_toNat_le.1 hB
        repeat' (first | refine S.nilK ?_ | (refine S.op rfl ?_; first | refine R.indexAddr rfl rfl (by omega) h0 ?_ | refine R.callQ (by decide) rfl hfirst ?_ | refine R.callQ (by decide) rfl hlast ?_ | refine R.callQ (by decide) rfl hfollow ?_ | refine S.sliceHM rfl rfl rfl (by omega) (by omega) (by decide) ?_ | refine R.mv rfl ?_ | refine R.fieldAddr rfl ?_ | refine R.fieldAddrR rfl ?_ | refine R.nilCheck rfl ?_ | refine R.nilCheckR rfl ?_ | refine R.loadR rfl rfl ?_ | refine R.load (by decide) rfl (by (repeat' (first | assumption | exact AHeap.set_same _ _ _ | refine AHeap.get_fresh ‹_› ?_ | refine AHeap.so ?_ ?_ | exact AHeap.n1 ‹_› | exact AHeap.n2 ‹_› | exact AHeap.ne_of ‹_› ‹_› | exact AHeap.n4 ‹_› ‹_› | exact AHeap.n5 ‹_› | exact AHeap.n6 ‹_› | exact AHeap.n7 ‹_› ‹_› | exact AHeap.n8 ‹_› ‹_›)); first | done | fail) rfl ?_ | refine S.addI rfl rfl (by omega) ?_ | refine S.subI rfl rfl (by omega) ?_ | refine S.addU rfl rfl ?_ | refine S.subU rfl rfl ?_ | refine S.addUc rfl (by decide) ?_ | refine S.subUc rfl (by decide) ?_ | refine R.pickT rfl rfl ?_ | refine R.pickF rfl rfl ?_ | refine R.len rfl ?_ | refine R.lenA rfl ?_ | refine R.lenStr rfl ?_ | refine S.convIU rfl (by omega) ?_ | refine S.convUI rfl (by omega) ?_ | refine R.convInt rfl ?_ | refine R.not rfl ?_ | refine R.eqPtrNil rfl rfl ?_ | refine R.alloc rfl (fun b hb => ?_) | refine R.buildSl rfl rfl rfl (by decide) ?_ | ((first | refine S.lss rfl rfl ?_ ?_ | refine S.gtr rfl rfl ?_ ?_ | refine S.eqInt rfl rfl ?_ ?_) <;> intro hlt <;> try (exfalso; omega))) | (refine S.op0 rfl ?_; first | refine S.storeS rfl rfl rfl (by rfl) rfl (by first | decide | exact Nat.le_refl _ | exact Nat.le_of_ble_eq_true rfl) ?_ | refine S.store rfl rfl (by (repeat' (first | assumption | exact AHeap.set_same _ _ _ | refine AHeap.get_fresh ‹_› ?_ | refine AHeap.so ?_ ?_ | exact AHeap.n1 ‹_› | exact AHeap.n2 ‹_› | exact AHeap.ne_of ‹_› ‹_› | exact AHeap.n4 ‹_› ‹_› | exact AHeap.n5 ‹_› | exact AHeap.n6 ‹_› | exact AHeap.n7 ‹_› ‹_› | exact AHeap.n8 ‹_› ‹_›)); first | done | fail) rfl rfl rfl (by rfl) rfl ?_) | refine S.skip rfl ?_ | refine S.skip0 rfl ?_ | refine S.seq ?_ | refine S.region ?_ | refine S.condT rfl ?_ | refine S.condF rfl ?_ | refine RRun.skip ?_ | refine RRun.block ?_ | refine RRun.inBlock ?_ | refine RRun.exit rfl ?_)
        rw [hlene]
        refine RRun.loopIn (S.keep [53, 52, 51, 0, 5] rfl ?_)
        rw [Log.append_good L x r hf hA hB]
        refine append_loop L p (x :: r) x.index he (L.l.take (x.index - (L.s.index + 1)).toNat) (by simp at hle ⊢; omega) (h.del p) (AHeap.del_same _ _) _ _ ?_ (x :: r).length 0 _ .full (by omega) (Grow.of_le ((AHeap.del_le h p).set _ (AHeap.del_same _ _))) ?_
        · intro h' c' hg' hp'
          have z1 : (((0 : UInt64).toNat : Int)) = 0 := rfl
          cases hd : decide (L.dirty = 0 ∨ x.index < L.dirty) with
          | true =>
            have hd' := of_decide_eq_true hd
            have hd2 : L.dirty.toNat = 0 ∨ x.index.toNat < L.dirty.toNat := hd'.imp (fun e => by rw [e]; rfl) UInt64.lt_iff_toNat_lt.1
            repeat' (first | refine S.nilK ?_ | (refine S.op rfl ?_; first | refine R.mv rfl ?_ | refine R.fieldAddr rfl ?_ | refine R.fieldAddrR rfl ?_ | refine R.nilCheck rfl ?_ | refine R.nilCheckR rfl ?_ | refine R.loadR rfl rfl ?_ | refine R.load (by decide) rfl (by (repeat' (first | assumption | exact AHeap.set_same _ _ _ | refine AHeap.get_fresh ‹_› ?_ | refine AHeap.so ?_ ?_ | exact AHeap.n1 ‹_› | exact AHeap.n2 ‹_› | exact AHeap.ne_of ‹_› ‹_› | exact AHeap.n4 ‹_› ‹_› | exact AHeap.n5 ‹_› | exact AHeap.n6 ‹_› | exact AHeap.n7 ‹_› ‹_› | exact AHeap.n8 ‹_› ‹_›)); first | done | fail) rfl ?_ | refine S.addI rfl rfl (by omega) ?_ | refine S.subI rfl rfl (by omega) ?_ | refine S.addU rfl rfl ?_ | refine S.subU rfl rfl ?_ | refine S.addUc rfl (by decide) ?_ | refine S.subUc rfl (by decide) ?_ | refine R.pickT rfl rfl ?_ | refine R.pickF rfl rfl ?_ | refine R.len rfl ?_ | refine R.lenA rfl ?_ | refine R.lenStr rfl ?_ | refine S.convIU rfl (by omega) ?_ | refine S.convUI rfl (by omega) ?_ | refine R.convInt rfl ?_ | refine R.not rfl ?_ | refine R.eqPtrNil rfl rfl ?_ | refine R.alloc rfl (fun b hb => ?_) | refine R.buildSl rfl rfl rfl (by decide) ?_ | ((first | refine S.lss rfl rfl ?_ ?_ | refine S.gtr rfl rfl ?_ ?_ | refine S.eqInt rfl rfl ?_ ?_) <;> intro hlt <;> try (exfalso; omega))) | (refine S.op0 rfl ?_; first | refine S.storeS rfl rfl rfl (by rfl) rfl (by first | decide | exact Nat.le_refl _ | exact Nat.le_of_ble_eq_true rfl) ?_ | refine S.store rfl rfl (by (repeat' (first | assumption | exact AHeap.set_same _ _ _ | refine AHeap.get_fresh ‹_› ?_ | refine AHeap.so ?_ ?_ | exact AHeap.n1 ‹_› | exact AHeap.n2 ‹_› | exact AHeap.ne_of ‹_› ‹_› | exact AHeap.n4 ‹_› ‹_› | exact AHeap.n5 ‹_› | exact AHeap.n6 ‹_› | exact AHeap.n7 ‹_› ‹_› | exact AHeap.n8 ‹_› ‹_›)); first | done | fail) rfl rfl rfl (by rfl) rfl ?_) | refine S.skip rfl ?_ | refine S.skip0 rfl ?_ | refine S.seq ?_ | refine S.region ?_ | refine S.condT rfl ?_ | refine S.condF rfl ?_ | refine RRun.skip ?_ | refine RRun.block ?_ | refine RRun.inBlock ?_ | refine RRun.exit rfl ?_)
            all_goals
              apply S.ret rr14
              case hx => repeat (first | exact ResAt.nil | apply ResAt.tmp rfl | apply ResAt.cellA rfl (by (repeat' (first | assumption | exact AHeap.set_same _ _ _ | refine AHeap.get_fresh ‹_› ?_ | refine AHeap.so ?_ ?_ | exact AHeap.n1 ‹_› | exact AHeap.n2 ‹_› | exact AHeap.ne_of ‹_› ‹_› | exact AHeap.n4 ‹_› ‹_› | exact AHeap.n5 ‹_› | exact AHeap.n6 ‹_› | exact AHeap.n7 ‹_› ‹_› | exact AHeap.n8 ‹_› ‹_›)); first | done | fail) (by rfl) | apply ResAt.cell1 rfl (by (repeat' (first | assumption | exact AHeap.set_same _ _ _ | refine AHeap.get_fresh ‹_› ?_ | refine AHeap.so ?_ ?_ | exact AHeap.n1 ‹_› | exact AHeap.n2 ‹_› | exact AHeap.ne_of ‹_› ‹_› | exact AHeap.n4 ‹_› ‹_› | exact AHeap.n5 ‹_› | exact AHeap.n6 ‹_› | exact AHeap.n7 ‹_› ‹_› | exact AHeap.n8 ‹_› ‹_›)); first | done | fail) (by rfl))
              refine ⟨_, _, .refl _, ?_, rfl, rfl⟩
              refine AHeap.le.of_del (hg'.le.set _ (AHeap.del_same _ _)) (AHeap.set_same _ _ _) ?_
              rw [if_pos hd']
              exact .box (cellsC_le { L with dirty := x.index } _ _)
          | false =>
            have hd' := of_decide_eq_false hd
            have hd2 : ¬ (L.dirty.toNat = 0) ∧ ¬ (x.index.toNat < L.dirty.toNat) := ⟨fun e => hd' (.inl (UInt64.toNat_inj.1 e)), fun e => hd' (.inr (UInt64.lt_iff_toNat_lt.2 e))⟩
            repeat' (first | refine S.nilK ?_ | (refine S.op rfl ?_; first | refine R.mv rfl ?_ | refine R.fieldAddr rfl ?_ | refine R.fieldAddrR rfl ?_ | refine R.nilCheck rfl ?_ | refine R.nilCheckR rfl ?_ | refine R.loadR rfl rfl ?_ | refine R.load (by decide) rfl (by (repeat' (first | assumption | exact AHeap.set_same _ _ _ | refine AHeap.get_fresh ‹_› ?_ | refine AHeap.so ?_ ?_ | exact AHeap.n1 ‹_› | exact AHeap.n2 ‹_› | exact AHeap.ne_of ‹_› ‹_› | exact AHeap.n4 ‹_› ‹_› | exact AHeap.n5 ‹_› | exact AHeap.n6 ‹_› | exact AHeap.n7 ‹_› ‹_› | exact AHeap.n8 ‹_› ‹_›)); first | done | fail) rfl ?_ | refine S.addI rfl rfl (by omega) ?_ | refine S.subI rfl rfl (by omega) ?_ | refine S.addU rfl rfl ?_ | refine S.subU rfl rfl ?_ | refine S.addUc rfl (by decide) ?_ | refine S.subUc rfl (by decide) ?_ | refine R.pickT rfl rfl ?_ | refine R.pickF rfl rfl ?_ | refine R.len rfl ?_ | refine R.lenA rfl ?_ | refine R.lenStr rfl ?_ | refine S.convIU rfl (by omega) ?_ | refine S.convUI rfl (by omega) ?_ | refine R.convInt rfl ?_ | refine R.not rfl ?_ | refine R.eqPtrNil rfl rfl ?_ | refine R.alloc rfl (fun b hb => ?_) | refine R.buildSl rfl rfl rfl (by decide) ?_ | ((first | refine S.lss rfl rfl ?_ ?_ | refine S.gtr rfl rfl ?_ ?_ | refine S.eqInt rfl rfl ?_ ?_) <;> intro hlt <;> try (exfalso; omega))) | (refine S.op0 rfl ?_; first | refine S.storeS rfl rfl rfl (by rfl) rfl (by first | decide | exact Nat.le_refl _ | exact Nat.le_of_ble_eq_true rfl) ?_ | refine S.store rfl rfl (by (repeat' (first | assumption | exact AHeap.set_same _ _ _ | refine AHeap.get_fresh ‹_› ?_ | refine AHeap.so ?_ ?_ | exact AHeap.n1 ‹_› | exact AHeap.n2 ‹_› | exact AHeap.ne_of ‹_› ‹_› | exact AHeap.n4 ‹_› ‹_› | exact AHeap.n5 ‹_› | exact AHeap.n6 ‹_› | exact AHeap.n7 ‹_› ‹_› | exact AHeap.n8 ‹_› ‹_›)); first | done | fail) rfl rfl rfl (by rfl) rfl ?_) | refine S.skip rfl ?_ | refine S.skip0 rfl ?_ | refine S.seq ?_ | refine S.region ?_ | refine S.condT rfl ?_ | refine S.condF rfl ?_ | refine RRun.skip ?_ | refine RRun.block ?_ | refine RRun.inBlock ?_ | refine RRun.exit rfl ?_)
            apply S.ret rr14
            case hx => repeat (first | exact ResAt.nil | apply ResAt.tmp rfl | apply ResAt.cellA rfl (by (repeat' (first | assumption | exact AHeap.set_same _ _ _ | refine AHeap.get_fresh ‹_› ?_ | refine AHeap.so ?_ ?_ | exact AHeap.n1 ‹_› | exact AHeap.n2 ‹_› | exact AHeap.ne_of ‹_› ‹_› | exact AHeap.n4 ‹_› ‹_› | exact AHeap.n5 ‹_› | exact AHeap.n6 ‹_› | exact AHeap.n7 ‹_› ‹_› | exact AHeap.n8 ‹_› ‹_›)); first | done | fail) (by rfl) | apply ResAt.cell1 rfl (by (repeat' (first | assumption | exact AHeap.set_same _ _ _ | refine AHeap.get_fresh ‹_› ?_ | refine AHeap.so ?_ ?_ | exact AHeap.n1 ‹_› | exact AHeap.n2 ‹_› | exact AHeap.ne_of ‹_› ‹_› | exact AHeap.n4 ‹_› ‹_› | exact AHeap.n5 ‹_› | exact AHeap.n6 ‹_› | exact AHeap.n7 ‹_› ‹_› | exact AHeap.n8 ‹_› ‹_›)); first | done | fail) (by rfl))
            refine ⟨_, _, .refl _, ?_, rfl, rfl⟩
            refine AHeap.le.of_del hg'.le hp' ?_
            rw [if_neg hd']
            exact .box (cellsC_le L _ _)
        · rw [AHeap.set_same]
          simp [Log.cellsC, List.map_take]
          rfl
      · have hc' : ¬ ((L.s.index + 1).toNat ≤ x.index.toNat ∧ (x.index - 1).toNat ≤ (L.s.index + UInt64.ofNat L.l.length).toNat) := fun ⟨a, b⟩ => hc ⟨UInt64.le_iff_toNat_le.2 a, UInt64.le_iff_toNat_le.2 b⟩
        have hno : ¬ (follow (x :: r) = true ∧ L.s.index + 1 ≤ x.index ∧ x.index - 1 ≤ L.s.index + UInt64.ofNat L.l.length) := fun ⟨_, h⟩ => hc h
        repeat' (first | refine S.nilK ?_ | (refine S.op rfl ?_; first | refine R.indexAddr rfl rfl (by omega) h0 ?_ | refine R.callQ (by decide) rfl hfirst ?_ | refine R.callQ (by decide) rfl hlast ?_ | refine R.callQ (by decide) rfl hfollow ?_ | refine R.mv rfl ?_ | refine R.fieldAddr rfl ?_ | refine R.fieldAddrR rfl ?_ | refine R.nilCheck rfl ?_ | refine R.nilCheckR rfl ?_ | refine R.loadR rfl rfl ?_ | refine R.load (by decide) rfl (by (repeat' (first | assumption | exact AHeap.set_same _ _ _ | refine AHeap.get_fresh ‹_› ?_ | refine AHeap.so ?_ ?_ | exact AHeap.n1 ‹_› | exact AHeap.n2 ‹_› | exact AHeap.ne_of ‹_› ‹_› | exact AHeap.n4 ‹_› ‹_› | exact AHeap.n5 ‹_› | exact AHeap.n6 ‹_› | exact AHeap.n7 ‹_› ‹_› | exact AHeap.n8 ‹_› ‹_›)); first | done | fail) rfl ?_ | refine S.addI rfl rfl (by omega) ?_ | refine S.subI rfl rfl (by omega) ?_ | refine S.addU rfl rfl ?_ | refine S.subU rfl rfl ?_ | refine S.addUc rfl (by decide) ?_ | refine S.subUc rfl (by decide) ?_ | refine R.pickT rfl rfl ?_ | refine R.pickF rfl rfl ?_ | refine R.len rfl ?_ | refine R.lenA rfl ?_ | refine R.lenStr rfl ?_ | refine S.convIU rfl (by omega) ?_ | refine S.convUI rfl (by omega) ?_ | refine R.convInt rfl ?_ | refine R.not rfl ?_ | refine R.eqPtrNil rfl rfl ?_ | refine R.alloc rfl (fun b hb => ?_) | refine R.buildSl rfl rfl rfl (by decide) ?_ | ((first | refine S.lss rfl rfl ?_ ?_ | refine S.gtr rfl rfl ?_ ?_ | refine S.eqInt rfl rfl ?_ ?_) <;> intro hlt <;> try (exfalso; omega))) | (refine S.op0 rfl ?_; first | refine S.storeS rfl rfl rfl (by rfl) rfl (by first | decide | exact Nat.le_refl _ | exact Nat.le_of_ble_eq_true rfl) ?_ | refine S.store rfl rfl (by (repeat' (first | assumption | exact AHeap.set_same _ _ _ | refine AHeap.get_fresh ‹_› ?_ | refine AHeap.so ?_ ?_ | exact AHeap.n1 ‹_› | exact AHeap.n2 ‹_› | exact AHeap.ne_of ‹_› ‹_› | exact AHeap.n4 ‹_› ‹_› | exact AHeap.n5 ‹_› | exact AHeap.n6 ‹_› | exact AHeap.n7 ‹_› ‹_› | exact AHeap.n8 ‹_› ‹_›)); first | done | fail) rfl rfl rfl (by rfl) rfl ?_) | refine S.skip rfl ?_ | refine S.skip0 rfl ?_ | refine S.seq ?_ | refine S.region ?_ | refine S.condT rfl ?_ | refine S.condF rfl ?_ | refine RRun.skip ?_ | refine RRun.block ?_ | refine RRun.inBlock ?_ | refine RRun.exit rfl ?_)
        all_goals
          apply S.ret rr14
          case hx => repeat (first | exact ResAt.nil | apply ResAt.tmp rfl | apply ResAt.cellA rfl (by (repeat' (first | assumption | exact AHeap.set_same _ _ _ | refine AHeap.get_fresh ‹_› ?_ | refine AHeap.so ?_ ?_ | exact AHeap.n1 ‹_› | exact AHeap.n2 ‹_› | exact AHeap.ne_of ‹_› ‹_› | exact AHeap.n4 ‹_› ‹_› | exact AHeap.n5 ‹_› | exact AHeap.n6 ‹_› | exact AHeap.n7 ‹_› ‹_› | exact AHeap.n8 ‹_› ‹_›)); first | done | fail) (by rfl) | apply ResAt.cell1 rfl (by (repeat' (first | assumption | exact AHeap.set_same _ _ _ | refine AHeap.get_fresh ‹_› ?_ | refine AHeap.so ?_ ?_ | exact AHeap.n1 ‹_› | exact AHeap.n2 ‹_› | exact AHeap.ne_of ‹_› ‹_› | exact AHeap.n4 ‹_› ‹_› | exact AHeap.n5 ‹_› | exact AHeap.n6 ‹_› | exact AHeap.n7 ‹_› ‹_› | exact AHeap.n8 ‹_› ‹_›)); first | done | fail) (by rfl))
          refine ⟨_, _, .refl _, ?_, ?_, rfl⟩
          · rw [Log.append, if_neg hno, AHeap.set_eq h hp]; exact .refl _
          · rw [Log.append, if_neg hno]; rfl

end Go.Proofs.Ytnmgamcmjjngcaa
