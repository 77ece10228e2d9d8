import Derived.Test.YtnmgamcmjjngcaaAvR
import Derived.Test.YtnmgamcmjjngcaaAvQ
import Derived.Test.YtnmgamcmjjngcaaT3
set_option linter.unusedVariables false
set_option linter.unusedSimpArgs false
namespace Go.Proofs.Ytnmgamcmjjngcaa
open Go.Av

structure Msg where
  kind : Int
  src : UInt64
  dst : UInt64
  term : UInt64
  index : UInt64
  logTerm : UInt64
  commit : UInt64
  hint : UInt64
  reject : Bool
  ents : List Entry
  snap : Snap

def Msg.cells (m : Msg) : List AV := [i64 m.kind, u64 m.src, u64 m.dst, u64 m.term, u64 m.index, u64 m.logTerm, u64 m.commit, u64 m.hint, bl m.reject, entries m.ents, u64 m.snap.index, u64 m.snap.term, u64s m.snap.members, bys m.snap.data]
def msgs (l : List Msg) : AV := .sl 14 (l.map Msg.cells) .ro

structure Fate where
  times : Int
  delay : Int
def Fate.cells (f : Fate) : List AV := [i64 f.times, i64 f.delay]
def fates (l : List Fate) : AV := .sl 2 (l.map Fate.cells) .ro

theorem one_fates (l : List Fate) : ∀ e ∈ l.map Fate.cells, ∀ a ∈ e, a.one = true := by
  intro e he a ha
  simp only [List.mem_map] at he
  obtain ⟨b, _, rfl⟩ := he
  simp only [Fate.cells, List.mem_cons, List.not_mem_nil, or_false] at ha
  rcases ha with rfl | rfl <;> rfl
theorem one_entries (l : List Entry) : ∀ e ∈ l.map Entry.cells, ∀ a ∈ e, a.one = true := by
  intro e he a ha
  simp only [List.mem_map] at he
  obtain ⟨b, _, rfl⟩ := he
  exact Entry.one b _ (List.mem_singleton.2 rfl) a ha

/-- slices.Clone[[]plenum/api.Fate,plenum/api.Fate] -/
def r54 : RCode :=
  (.seq (.region [
    ⟨(some 2), none, .act, .mv (.const (.slice none 0 0))⟩])
  (.seq (.seq (.region [
    ⟨(some 3), none, .act, .mv (.tmp 0)⟩,
    ⟨(some 4), none, .act, .eq false .slice (.tmp 3) (.const (.slice none 0 0))⟩])
  (.cond (.tmp 4)
   (.seq (.region [
     ⟨(some 2), none, .act, .mv (.const (.slice none 0 0))⟩])
   .ret)
   .skip))
  (.seq (.region [
    ⟨(some 5), none, .act, .buildSl 2 [(.int .i64 0), (.int .i64 0)] 0 []⟩,
    ⟨(some 6), none, .act, .mv (.tmp 0)⟩,
    ⟨(some 7), none, .act, .append 2 16 [(.int .i64 0), (.int .i64 0)] (.tmp 5) (.tmp 6)⟩,
    ⟨(some 2), none, .act, .mv (.tmp 7)⟩])
  .ret)))
theorem res54 : ∃ c, Try.f54.body = some c ∧ resCode Try.prog 8 c = some r54 := ⟨_, rfl, by kernel_rfl⟩
theorem rr54 : resRes Try.prog Try.f54.results.toList = some [.tmp 2] := by kernel_rfl
theorem clone54_spec (l : List Fate) (hl : l.length ≤ 8796093022208) (h : AHeap) : ACalls Try.prog 54 [fates l] h (fun x h' => x = fates l ∧ h' = h) := by
  obtain ⟨c, hc1, hc2⟩ := res54
  refine ACalls.weak (ACalls.enter Try.func54 hc1 Try.ntmps54 hc2 (Nat.le_of_ble_eq_true rfl) rfl ?_)
  repeat' (first | refine S.nilK ?_ | (refine S.op rfl ?_; first | refine S.eqSlNil rfl rfl rfl ?_ (fun hnil => ?_) | refine R.mv rfl ?_ | refine R.eqPtrNil rfl rfl ?_ | refine R.buildSl rfl rfl rfl (by decide) ?_ | ((first | refine S.eqInt rfl rfl ?_ ?_) <;> intro hlt <;> try (exfalso; omega))) | refine S.skip rfl ?_ | refine S.skip0 rfl ?_ | refine S.seq ?_ | refine S.region ?_ | refine S.condT rfl ?_ | refine S.condF rfl ?_ | refine RRun.skip ?_ | refine RRun.block ?_ | refine RRun.inBlock ?_ | refine RRun.exit rfl ?_)
  · refine S.op rfl (R.appendV rfl (.sl _ _) rfl (.sl _ _) ?_ ?_ ?_ ?_)
    · exact one_fates l
    · simp [chunks]; omega
    · simp [chunks]; omega
    ·
      repeat' (first | refine S.nilK ?_ | (refine S.op rfl ?_; first | refine R.mv rfl ?_ | refine R.eqPtrNil rfl rfl ?_ | refine R.buildSl rfl rfl rfl (by decide) ?_ | ((first | refine S.eqInt rfl rfl ?_ ?_) <;> intro hlt <;> try (exfalso; omega))) | refine S.skip rfl ?_ | refine S.skip0 rfl ?_ | refine S.seq ?_ | refine S.region ?_ | refine S.condT rfl ?_ | refine S.condF rfl ?_ | refine RRun.skip ?_ | refine RRun.block ?_ | refine RRun.inBlock ?_ | refine RRun.exit rfl ?_)
      refine RRun.ret rr54 rfl ?_
      exact ⟨_, _, .refl _, .refl _, rfl, rfl⟩
  · refine RRun.ret rr54 rfl ?_
    obtain rfl : l = [] := by simpa using hnil
    exact ⟨_, _, .nilSl 2 (c := .ro) trivial, .refl _, rfl, rfl⟩

/-- slices.Clone[[]plenum/api.Entry,plenum/api.Entry] -/
def r66 : RCode :=
  (.seq (.region [
    ⟨(some 2), none, .act, .mv (.const (.slice none 0 0))⟩])
  (.seq (.seq (.region [
    ⟨(some 3), none, .act, .mv (.tmp 0)⟩,
    ⟨(some 4), none, .act, .eq false .slice (.tmp 3) (.const (.slice none 0 0))⟩])
  (.cond (.tmp 4)
   (.seq (.region [
     ⟨(some 2), none, .act, .mv (.const (.slice none 0 0))⟩])
   .ret)
   .skip))
  (.seq (.region [
    ⟨(some 5), none, .act, .buildSl 4 [(.int .u64 0), (.int .u64 0), (.int .i64 0), (.slice none 0 0)] 0 []⟩,
    ⟨(some 6), none, .act, .mv (.tmp 0)⟩,
    ⟨(some 7), none, .act, .append 4 48 [(.int .u64 0), (.int .u64 0), (.int .i64 0), (.slice none 0 0)] (.tmp 5) (.tmp 6)⟩,
    ⟨(some 2), none, .act, .mv (.tmp 7)⟩])
  .ret)))
theorem res66 : ∃ c, Try.f66.body = some c ∧ resCode Try.prog 8 c = some r66 := ⟨_, rfl, by kernel_rfl⟩
theorem rr66 : resRes Try.prog Try.f66.results.toList = some [.tmp 2] := by kernel_rfl
theorem clone66_spec (l : List Entry) (hl : l.length ≤ 2932031007402) (h : AHeap) : ACalls Try.prog 66 [entries l] h (fun x h' => (l = [] ∧ x = entries [] ∧ h' = h) ∨
    (l ≠ [] ∧ ∃ b cap, h b = none ∧ l.length ≤ cap ∧ cap ≤ maxLen ∧ x = slAt b 0 l.length cap ∧ h' = h.set b (.box ((l.map Entry.cells).flatten ++ List.replicate ((cap - l.length) * 4) .any)))) := by
  obtain ⟨c, hc1, hc2⟩ := res66
  refine ACalls.weak (ACalls.enter Try.func66 hc1 Try.ntmps66 hc2 (Nat.le_of_ble_eq_true rfl) rfl ?_)
  repeat' (first | refine S.nilK ?_ | (refine S.op rfl ?_; first | refine S.eqSlNil rfl rfl rfl ?_ (fun hnil => ?_) | refine R.mv rfl ?_ | refine R.eqPtrNil rfl rfl ?_ | refine R.buildSl rfl rfl rfl (by decide) ?_ | ((first | refine S.eqInt rfl rfl ?_ ?_) <;> intro hlt <;> try (exfalso; omega))) | refine S.skip rfl ?_ | refine S.skip0 rfl ?_ | refine S.seq ?_ | refine S.region ?_ | refine S.condT rfl ?_ | refine S.condF rfl ?_ | refine RRun.skip ?_ | refine RRun.block ?_ | refine RRun.inBlock ?_ | refine RRun.exit rfl ?_)
  · by_cases hne : l = []
    · subst hne
      refine S.op rfl (R.appendV rfl (.sl _ _) rfl (.sl _ _) ?_ ?_ ?_ ?_)
      · exact one_entries []
      · simp [chunks]
      · simp [chunks]
      ·
        repeat' (first | refine S.nilK ?_ | (refine S.op rfl ?_; first | refine R.mv rfl ?_ | refine R.eqPtrNil rfl rfl ?_ | refine R.buildSl rfl rfl rfl (by decide) ?_ | ((first | refine S.eqInt rfl rfl ?_ ?_) <;> intro hlt <;> try (exfalso; omega))) | refine S.skip rfl ?_ | refine S.skip0 rfl ?_ | refine S.seq ?_ | refine S.region ?_ | refine S.condT rfl ?_ | refine S.condF rfl ?_ | refine RRun.skip ?_ | refine RRun.block ?_ | refine RRun.inBlock ?_ | refine RRun.exit rfl ?_)
        refine RRun.ret rr66 rfl ?_
        exact ⟨_, _, .refl _, .refl _, .inl ⟨rfl, rfl, rfl⟩⟩
    · have hlen : (l.map Entry.cells).length = l.length := by simp
      refine S.op rfl (R.appendBox rfl rfl (.sl _ _) rfl (.sl _ _) (one_entries l) (by simpa using hne) (by omega) (by omega) (fun b cap hb hc1 hc2 => ?_))
      rw [hlen] at hc1 ⊢
      repeat' (first | refine S.nilK ?_ | (refine S.op rfl ?_; first | refine R.mv rfl ?_ | refine R.eqPtrNil rfl rfl ?_ | refine R.buildSl rfl rfl rfl (by decide) ?_ | ((first | refine S.eqInt rfl rfl ?_ ?_) <;> intro hlt <;> try (exfalso; omega))) | refine S.skip rfl ?_ | refine S.skip0 rfl ?_ | refine S.seq ?_ | refine S.region ?_ | refine S.condT rfl ?_ | refine S.condF rfl ?_ | refine RRun.skip ?_ | refine RRun.block ?_ | refine RRun.inBlock ?_ | refine RRun.exit rfl ?_)
      refine RRun.ret rr66 rfl ?_
      exact ⟨_, _, .refl _, .refl _, .inr ⟨hne, b, cap, hb, hc1, hc2, rfl, rfl⟩⟩
  · refine RRun.ret rr66 rfl ?_
    obtain rfl : l = [] := by simpa using hnil
    exact ⟨_, _, .nilSl 4 (c := .ro) trivial, .refl _, .inl ⟨rfl, rfl, rfl⟩⟩

/-- plenum/mesh.between -/
def r56 : RCode :=
  (.seq (.region [
    ⟨(some 4), none, .act, .alloc [(.int .u64 0), (.int .u64 0)]⟩])
  (.seq (.region [
    ⟨(some 5), none, .act, .mv (.tmp 0)⟩,
    ⟨(some 6), none, .act, .mv (.tmp 1)⟩,
    ⟨(some 7), none, .act, .minmax false [(.tmp 5), (.tmp 6)]⟩,
    ⟨(some 8), none, .act, .mv (.tmp 0)⟩,
    ⟨(some 9), none, .act, .mv (.tmp 1)⟩,
    ⟨(some 10), none, .act, .minmax true [(.tmp 8), (.tmp 9)]⟩,
    ⟨(some 11), none, .act, .build [(.int .u64 0), (.int .u64 0)] [(0, 1, (.tmp 7)), (1, 1, (.tmp 10))]⟩,
    ⟨none, none, .act, .store 2 (.tmp 4) (.tmp 11)⟩])
  .ret))
theorem res56 : ∃ c, Try.f56.body = some c ∧ resCode Try.prog 12 c = some r56 := ⟨_, rfl, by kernel_rfl⟩
theorem rr56 : resRes Try.prog Try.f56.results.toList = some [.cell 4 true 2] := by kernel_rfl
theorem between_spec (a b : UInt64) (h : AHeap) : ACalls Try.prog 56 [u64 a, u64 b] h (fun x h' => x = .ag [u64 (min a b), u64 (max a b)] ∧ h' = h) := by
  obtain ⟨c, hc1, hc2⟩ := res56
  refine ACalls.weak (ACalls.enter Try.func56 hc1 Try.ntmps56 hc2 (Nat.le_of_ble_eq_true rfl) rfl ?_)
  have hmin : minInt (List.map (fun x => x.2) [(IntKind.u64, (b.toNat : Int))]) (a.toNat : Int) = ((min a b).toNat : Int) := by
    simp only [List.map, minInt, show min a b = if a ≤ b then a else b from rfl]
    by_cases hle : a ≤ b
    · have h2 := UInt64.le_iff_toNat_le.1 hle
      rw [if_pos hle, if_neg (by omega)]
    · have h2 : ¬ a.toNat ≤ b.toNat := fun e => hle (UInt64.le_iff_toNat_le.2 e)
      rw [if_neg hle, if_pos (by omega)]
  have hmax : maxInt (List.map (fun x => x.2) [(IntKind.u64, (b.toNat : Int))]) (a.toNat : Int) = ((max a b).toNat : Int) := by
    simp only [List.map, maxInt, show max a b = if a ≤ b then b else a from rfl]
    by_cases hle : a ≤ b
    · have h2 := UInt64.le_iff_toNat_le.1 hle
      rw [if_pos hle]
      split <;> omega
    · have h2 : ¬ a.toNat ≤ b.toNat := fun e => hle (UInt64.le_iff_toNat_le.2 e)
      rw [if_neg hle]
      split <;> omega
  repeat' (first | refine S.nilK ?_ | (refine S.op rfl ?_; first | refine S.minIs rfl hmin ?_ | refine S.maxIs rfl hmax ?_ | refine R.mv rfl ?_ | refine R.alloc rfl (fun b hb => ?_) | refine R.build rfl rfl ?_ | refine R.minmax rfl ?_) | (refine S.op0 rfl ?_; first | refine S.storeS rfl rfl rfl (by rfl) rfl (by first | decide | exact Nat.le_refl _ | exact Nat.le_of_ble_eq_true rfl) ?_ | refine S.store rfl rfl (by (repeat' (first | assumption | exact AHeap.set_same _ _ _ | refine AHeap.get_fresh ‹_› ?_ | refine AHeap.so ?_ ?_ | exact AHeap.n1 ‹_› | exact AHeap.n2 ‹_› | exact AHeap.ne_of ‹_› ‹_› | exact AHeap.n4 ‹_› ‹_› | exact AHeap.n5 ‹_› | exact AHeap.n6 ‹_› | exact AHeap.n7 ‹_› ‹_› | exact AHeap.n8 ‹_› ‹_›)); first | done | fail) rfl rfl rfl (by rfl) rfl ?_) | refine S.skip rfl ?_ | refine S.skip0 rfl ?_ | refine S.seq ?_ | refine S.region ?_ | refine S.condT rfl ?_ | refine S.condF rfl ?_ | refine RRun.skip ?_ | refine RRun.block ?_ | refine RRun.inBlock ?_ | refine RRun.exit rfl ?_)
  apply S.ret rr56
  case hx => repeat (first | exact ResAt.nil | apply ResAt.tmp rfl | apply ResAt.cellA rfl (by (repeat' (first | assumption | exact AHeap.set_same _ _ _ | refine AHeap.get_fresh ‹_› ?_ | refine AHeap.so ?_ ?_ | exact AHeap.n1 ‹_› | exact AHeap.n2 ‹_› | exact AHeap.ne_of ‹_› ‹_› | exact AHeap.n4 ‹_› ‹_› | exact AHeap.n5 ‹_› | exact AHeap.n6 ‹_› | exact AHeap.n7 ‹_› ‹_› | exact AHeap.n8 ‹_› ‹_›)); first | done | fail) (by rfl) | apply ResAt.cell1 rfl (by (repeat' (first | assumption | exact AHeap.set_same _ _ _ | refine AHeap.get_fresh ‹_› ?_ | refine AHeap.so ?_ ?_ | exact AHeap.n1 ‹_› | exact AHeap.n2 ‹_› | exact AHeap.ne_of ‹_› ‹_› | exact AHeap.n4 ‹_› ‹_› | exact AHeap.n5 ‹_› | exact AHeap.n6 ‹_› | exact AHeap.n7 ‹_› ‹_› | exact AHeap.n8 ‹_› ‹_›)); first | done | fail) (by rfl))
  exact ⟨_, _, .refl _, (by repeat (first | exact AHeap.le.refl _ | refine AHeap.le.set ?_ _ (by (repeat' (first | assumption | exact AHeap.z1 ‹_› | exact AHeap.z2 ‹_› | exact AHeap.z3 ‹_› | refine AHeap.so ?_ ?_ | exact AHeap.n1 ‹_› | exact AHeap.n2 ‹_› | exact AHeap.ne_of ‹_› ‹_› | exact AHeap.n4 ‹_› ‹_› | exact AHeap.n5 ‹_› | exact AHeap.n6 ‹_› | exact AHeap.n7 ‹_› ‹_› | exact AHeap.n8 ‹_› ‹_›)); first | done | fail) | refine AHeap.le.both ?_ _ _)), rfl, rfl⟩

/-- (*plenum/mesh.Mesh).ok -/
def r55 : RCode :=
  (.seq (.region [
    ⟨(some 2), none, .act, .mv (.const (.bool false))⟩])
  (.seq (.region [
    ⟨(some 3), none, .act, .mv (.tmp 0)⟩,
    ⟨(some 4), none, .act, .eq true .ptr (.tmp 3) (.const (.pointer none))⟩,
    ⟨(some 5), none, .act, .mv (.tmp 4)⟩,
    ⟨(some 6), (some (5, true)), .act, .mv (.tmp 0)⟩,
    ⟨(some 7), (some (5, true)), .act, .nilCheck (.tmp 6)⟩,
    ⟨(some 8), (some (5, true)), .act, .fieldAddr 3 (.tmp 7)⟩,
    ⟨(some 9), (some (5, true)), .act, .load false 1 (.tmp 8)⟩,
    ⟨(some 10), (some (5, true)), .act, .eq true .map (.tmp 9) (.const (.map none))⟩,
    ⟨(some 11), none, .act, .pick (.tmp 5) (.tmp 10) (.const (.bool false))⟩,
    ⟨(some 2), none, .act, .mv (.tmp 11)⟩])
  .ret))
theorem res55 : ∃ c, Try.f55.body = some c ∧ resCode Try.prog 12 c = some r55 := ⟨_, rfl, by kernel_rfl⟩
theorem rr55 : resRes Try.prog Try.f55.results.toList = some [.tmp 2] := by kernel_rfl
theorem ok_nil (h : AHeap) : ACalls Try.prog 55 [nilPtr] h (fun x h' => x = bl false ∧ h' = h) := by
  obtain ⟨c, hc1, hc2⟩ := res55
  refine ACalls.weak (ACalls.enter Try.func55 hc1 Try.ntmps55 hc2 (Nat.le_of_ble_eq_true rfl) rfl ?_)
  repeat' (first | refine S.nilK ?_ | (refine S.op rfl ?_; first | refine R.mv rfl ?_ | refine R.fieldAddr rfl ?_ | refine R.fieldAddrR rfl ?_ | refine R.nilCheck rfl ?_ | refine R.nilCheckR rfl ?_ | refine R.loadR rfl rfl ?_ | refine R.load (by decide) rfl (by (repeat' (first | assumption | exact AHeap.set_same _ _ _ | refine AHeap.get_fresh ‹_› ?_ | refine AHeap.so ?_ ?_ | exact AHeap.n1 ‹_› | exact AHeap.n2 ‹_› | exact AHeap.ne_of ‹_› ‹_› | exact AHeap.n4 ‹_› ‹_› | exact AHeap.n5 ‹_› | exact AHeap.n6 ‹_› | exact AHeap.n7 ‹_› ‹_› | exact AHeap.n8 ‹_› ‹_›)); first | done | fail) rfl ?_ | refine R.pickT rfl rfl ?_ | refine R.pickF rfl rfl ?_ | refine R.eqPtrNil rfl rfl ?_ | ((first | refine S.eqInt rfl rfl ?_ ?_) <;> intro hlt <;> try (exfalso; omega))) | refine S.skip rfl ?_ | refine S.skip0 rfl ?_ | refine S.seq ?_ | refine S.region ?_ | refine S.condT rfl ?_ | refine S.condF rfl ?_ | refine RRun.skip ?_ | refine RRun.block ?_ | refine RRun.inBlock ?_ | refine RRun.exit rfl ?_)
  apply S.ret rr55
  case hx => repeat (first | exact ResAt.nil | apply ResAt.tmp rfl | apply ResAt.cellA rfl (by (repeat' (first | assumption | exact AHeap.set_same _ _ _ | refine AHeap.get_fresh ‹_› ?_ | refine AHeap.so ?_ ?_ | exact AHeap.n1 ‹_› | exact AHeap.n2 ‹_› | exact AHeap.ne_of ‹_› ‹_› | exact AHeap.n4 ‹_› ‹_› | exact AHeap.n5 ‹_› | exact AHeap.n6 ‹_› | exact AHeap.n7 ‹_› ‹_› | exact AHeap.n8 ‹_› ‹_›)); first | done | fail) (by rfl) | apply ResAt.cell1 rfl (by (repeat' (first | assumption | exact AHeap.set_same _ _ _ | refine AHeap.get_fresh ‹_› ?_ | refine AHeap.so ?_ ?_ | exact AHeap.n1 ‹_› | exact AHeap.n2 ‹_› | exact AHeap.ne_of ‹_› ‹_› | exact AHeap.n4 ‹_› ‹_› | exact AHeap.n5 ‹_› | exact AHeap.n6 ‹_› | exact AHeap.n7 ‹_› ‹_› | exact AHeap.n8 ‹_› ‹_›)); first | done | fail) (by rfl))
  exact ⟨_, _, .refl _, (by repeat (first | exact AHeap.le.refl _ | refine AHeap.le.set ?_ _ (by (repeat' (first | assumption | exact AHeap.z1 ‹_› | exact AHeap.z2 ‹_› | exact AHeap.z3 ‹_› | refine AHeap.so ?_ ?_ | exact AHeap.n1 ‹_› | exact AHeap.n2 ‹_› | exact AHeap.ne_of ‹_› ‹_› | exact AHeap.n4 ‹_› ‹_› | exact AHeap.n5 ‹_› | exact AHeap.n6 ‹_› | exact AHeap.n7 ‹_› ‹_› | exact AHeap.n8 ‹_› ‹_›)); first | done | fail) | refine AHeap.le.both ?_ _ _)), rfl, rfl⟩
theorem ok_made {p bm : Nat} {x0 x1 x2 x4 : AV} (h : AHeap) (hp : h p = some (.box [x0, x1, x2, .v (.map (some bm)), x4])) : ACalls Try.prog 55 [ptr p] h (fun x h' => x = bl true ∧ h' = h) := by
  obtain ⟨c, hc1, hc2⟩ := res55
  refine ACalls.weak (ACalls.enter Try.func55 hc1 Try.ntmps55 hc2 (Nat.le_of_ble_eq_true rfl) rfl ?_)
  repeat' (first | refine S.nilK ?_ | (refine S.op rfl ?_; first | refine R.eqMapNil rfl rfl ?_ | refine R.mv rfl ?_ | refine R.fieldAddr rfl ?_ | refine R.fieldAddrR rfl ?_ | refine R.nilCheck rfl ?_ | refine R.nilCheckR rfl ?_ | refine R.loadR rfl rfl ?_ | refine R.load (by decide) rfl (by (repeat' (first | assumption | exact AHeap.set_same _ _ _ | refine AHeap.get_fresh ‹_› ?_ | refine AHeap.so ?_ ?_ | exact AHeap.n1 ‹_› | exact AHeap.n2 ‹_› | exact AHeap.ne_of ‹_› ‹_› | exact AHeap.n4 ‹_› ‹_› | exact AHeap.n5 ‹_› | exact AHeap.n6 ‹_› | exact AHeap.n7 ‹_› ‹_› | exact AHeap.n8 ‹_› ‹_›)); first | done | fail) rfl ?_ | refine R.pickT rfl rfl ?_ | refine R.pickF rfl rfl ?_ | refine R.eqPtrNil rfl rfl ?_ | ((first | refine S.eqInt rfl rfl ?_ ?_) <;> intro hlt <;> try (exfalso; omega))) | refine S.skip rfl ?_ | refine S.skip0 rfl ?_ | refine S.seq ?_ | refine S.region ?_ | refine S.condT rfl ?_ | refine S.condF rfl ?_ | refine RRun.skip ?_ | refine RRun.block ?_ | refine RRun.inBlock ?_ | refine RRun.exit rfl ?_)
  apply S.ret rr55
  case hx => repeat (first | exact ResAt.nil | apply ResAt.tmp rfl | apply ResAt.cellA rfl (by (repeat' (first | assumption | exact AHeap.set_same _ _ _ | refine AHeap.get_fresh ‹_› ?_ | refine AHeap.so ?_ ?_ | exact AHeap.n1 ‹_› | exact AHeap.n2 ‹_› | exact AHeap.ne_of ‹_› ‹_› | exact AHeap.n4 ‹_› ‹_› | exact AHeap.n5 ‹_› | exact AHeap.n6 ‹_› | exact AHeap.n7 ‹_› ‹_› | exact AHeap.n8 ‹_› ‹_›)); first | done | fail) (by rfl) | apply ResAt.cell1 rfl (by (repeat' (first | assumption | exact AHeap.set_same _ _ _ | refine AHeap.get_fresh ‹_› ?_ | refine AHeap.so ?_ ?_ | exact AHeap.n1 ‹_› | exact AHeap.n2 ‹_› | exact AHeap.ne_of ‹_› ‹_› | exact AHeap.n4 ‹_› ‹_› | exact AHeap.n5 ‹_› | exact AHeap.n6 ‹_› | exact AHeap.n7 ‹_› ‹_› | exact AHeap.n8 ‹_› ‹_›)); first | done | fail) (by rfl))
  exact ⟨_, _, .refl _, (by repeat (first | exact AHeap.le.refl _ | refine AHeap.le.set ?_ _ (by (repeat' (first | assumption | exact AHeap.z1 ‹_› | exact AHeap.z2 ‹_› | exact AHeap.z3 ‹_› | refine AHeap.so ?_ ?_ | exact AHeap.n1 ‹_› | exact AHeap.n2 ‹_› | exact AHeap.ne_of ‹_› ‹_› | exact AHeap.n4 ‹_› ‹_› | exact AHeap.n5 ‹_› | exact AHeap.n6 ‹_› | exact AHeap.n7 ‹_› ‹_› | exact AHeap.n8 ‹_› ‹_›)); first | done | fail) | refine AHeap.le.both ?_ _ _)), rfl, rfl⟩

def fateAt (l : List Fate) (n : Nat) : Fate := if h : n < l.length then l[n] else ⟨1, 0⟩

/-- (*plenum/mesh.Mesh).fate -/
def r57 : RCode :=
  (.seq (.region [
    ⟨(some 2), none, .act, .alloc [(.int .i64 0), (.int .i64 0)]⟩])
  (.seq (.region [
    ⟨(some 4), none, .act, .build [(.int .i64 0), (.int .i64 0)] [(0, 1, (.const (.int .i64 1)))]⟩,
    ⟨(some 3), none, .act, .alloc [(.int .i64 0), (.int .i64 0)]⟩,
    ⟨none, none, .act, .store 2 (.tmp 3) (.tmp 4)⟩])
  (.seq (.seq (.region [
    ⟨(some 5), none, .pure, .mv (.tmp 0)⟩,
    ⟨(some 6), none, .pure, .nilCheck (.tmp 5)⟩,
    ⟨(some 7), none, .pure, .fieldAddr 1 (.tmp 6)⟩,
    ⟨(some 8), none, .read, .load false 1 (.tmp 7)⟩,
    ⟨(some 9), none, .pure, .mv (.tmp 0)⟩,
    ⟨(some 10), none, .pure, .nilCheck (.tmp 9)⟩,
    ⟨(some 11), none, .pure, .fieldAddr 0 (.tmp 10)⟩,
    ⟨(some 12), none, .read, .load false 1 (.tmp 11)⟩,
    ⟨(some 13), none, .pure, .len (.tmp 12)⟩,
    ⟨(some 14), none, .pure, .bin .lss (.tmp 8) (.tmp 13)⟩])
  (.cond (.tmp 14)
   (.region [
     ⟨(some 15), none, .pure, .mv (.tmp 0)⟩,
     ⟨(some 16), none, .pure, .nilCheck (.tmp 15)⟩,
     ⟨(some 17), none, .pure, .fieldAddr 0 (.tmp 16)⟩,
     ⟨(some 18), none, .read, .load false 1 (.tmp 17)⟩,
     ⟨(some 19), none, .pure, .mv (.tmp 0)⟩,
     ⟨(some 20), none, .pure, .nilCheck (.tmp 19)⟩,
     ⟨(some 21), none, .pure, .fieldAddr 1 (.tmp 20)⟩,
     ⟨(some 22), none, .read, .load false 1 (.tmp 21)⟩,
     ⟨(some 23), none, .pure, .indexAddr 2 (.tmp 18) (.tmp 22)⟩,
     ⟨(some 24), none, .read, .load true 2 (.tmp 23)⟩,
     ⟨none, none, .act, .store 2 (.tmp 3) (.tmp 24)⟩])
   .skip))
  (.seq (.region [
    ⟨(some 25), none, .act, .mv (.tmp 0)⟩,
    ⟨(some 26), none, .act, .nilCheck (.tmp 25)⟩,
    ⟨(some 27), none, .act, .fieldAddr 1 (.tmp 26)⟩,
    ⟨(some 28), none, .act, .load false 1 (.tmp 27)⟩,
    ⟨(some 29), none, .act, .bin .add (.tmp 28) (.const (.int .i64 1))⟩,
    ⟨(some 30), none, .act, .nilCheck (.tmp 25)⟩,
    ⟨(some 31), none, .act, .fieldAddr 1 (.tmp 30)⟩,
    ⟨none, none, .act, .store 1 (.tmp 31) (.tmp 29)⟩])
  (.seq (.region [
    ⟨(some 32), none, .act, .load true 2 (.tmp 3)⟩,
    ⟨none, none, .act, .store 2 (.tmp 2) (.tmp 32)⟩])
  .ret)))))
theorem res57 : ∃ c, Try.f57.body = some c ∧ resCode Try.prog 33 c = some r57 := ⟨_, rfl, by kernel_rfl⟩
theorem rr57 : resRes Try.prog Try.f57.results.toList = some [.cell 2 true 2] := by kernel_rfl
theorem fate_spec {p : Nat} {l : List Fate} {n : Nat} {x2 x3 x4 : AV} (hn : n ≤ 1000000) (h : AHeap) (hp : h p = some (.box [fates l, i64 n, x2, x3, x4])) :
    ACalls Try.prog 57 [ptr p] h (fun x h' => x = .ag (fateAt l n).cells ∧ h' = h.set p (.box [fates l, i64 (n + 1 : Nat), x2, x3, x4])) := by
  have hlen : (l.map Fate.cells).length = l.length := by simp
  obtain ⟨c, hc1, hc2⟩ := res57
  refine ACalls.weak (ACalls.enter Try.func57 hc1 Try.ntmps57 hc2 (Nat.le_of_ble_eq_true rfl) rfl ?_)
  by_cases hlt' : n < l.length
  · have h1 : (l.map Fate.cells)[((n : Nat) : Int).toNat]? = some l[n].cells := by simp [hlt']
    repeat' (first | refine S.nilK ?_ | (refine S.op rfl ?_; first | refine R.indexAddr rfl rfl (by omega) h1 ?_ | refine R.mv rfl ?_ | refine R.fieldAddr rfl ?_ | refine R.fieldAddrR rfl ?_ | refine R.nilCheck rfl ?_ | refine R.nilCheckR rfl ?_ | refine R.loadR rfl rfl ?_ | refine R.load (by decide) rfl (by (repeat' (first | assumption | exact AHeap.set_same _ _ _ | refine AHeap.get_fresh ‹_› ?_ | refine AHeap.so ?_ ?_ | exact AHeap.n1 ‹_› | exact AHeap.n2 ‹_› | exact AHeap.ne_of ‹_› ‹_› | exact AHeap.n4 ‹_› ‹_› | exact AHeap.n5 ‹_› | exact AHeap.n6 ‹_› | exact AHeap.n7 ‹_› ‹_› | exact AHeap.n8 ‹_› ‹_›)); first | done | fail) rfl ?_ | refine S.addI rfl rfl (by omega) ?_ | refine S.addU rfl rfl ?_ | refine S.addUc rfl (by decide) ?_ | refine R.len rfl ?_ | refine R.lenA rfl ?_ | refine R.lenStr rfl ?_ | refine R.alloc rfl (fun b hb => ?_) | refine R.build rfl rfl ?_ | ((first | refine S.lss rfl rfl ?_ ?_) <;> intro hlt <;> try (exfalso; omega))) | (refine S.op0 rfl ?_; first | refine S.storeS rfl rfl rfl (by rfl) rfl (by first | decide | exact Nat.le_refl _ | exact Nat.le_of_ble_eq_true rfl) ?_ | refine S.store rfl rfl (by (repeat' (first | assumption | exact AHeap.set_same _ _ _ | refine AHeap.get_fresh ‹_› ?_ | refine AHeap.so ?_ ?_ | exact AHeap.n1 ‹_› | exact AHeap.n2 ‹_› | exact AHeap.ne_of ‹_› ‹_› | exact AHeap.n4 ‹_› ‹_› | exact AHeap.n5 ‹_› | exact AHeap.n6 ‹_› | exact AHeap.n7 ‹_› ‹_› | exact AHeap.n8 ‹_› ‹_›)); first | done | fail) rfl rfl rfl (by rfl) rfl ?_) | refine S.skip rfl ?_ | refine S.skip0 rfl ?_ | refine S.seq ?_ | refine S.region ?_ | refine S.condT rfl ?_ | refine S.condF rfl ?_ | refine RRun.skip ?_ | refine RRun.block ?_ | refine RRun.inBlock ?_ | refine RRun.exit rfl ?_)
    apply S.ret rr57
    case hx => repeat (first | exact ResAt.nil | apply ResAt.tmp rfl | apply ResAt.cellA rfl (by (repeat' (first | assumption | exact AHeap.set_same _ _ _ | refine AHeap.get_fresh ‹_› ?_ | refine AHeap.so ?_ ?_ | exact AHeap.n1 ‹_› | exact AHeap.n2 ‹_› | exact AHeap.ne_of ‹_› ‹_› | exact AHeap.n4 ‹_› ‹_› | exact AHeap.n5 ‹_› | exact AHeap.n6 ‹_› | exact AHeap.n7 ‹_› ‹_› | exact AHeap.n8 ‹_› ‹_›)); first | done | fail) (by rfl) | apply ResAt.cell1 rfl (by (repeat' (first | assumption | exact AHeap.set_same _ _ _ | refine AHeap.get_fresh ‹_› ?_ | refine AHeap.so ?_ ?_ | exact AHeap.n1 ‹_› | exact AHeap.n2 ‹_› | exact AHeap.ne_of ‹_› ‹_› | exact AHeap.n4 ‹_› ‹_› | exact AHeap.n5 ‹_› | exact AHeap.n6 ‹_› | exact AHeap.n7 ‹_› ‹_› | exact AHeap.n8 ‹_› ‹_›)); first | done | fail) (by rfl))
    rw [fateAt, dif_pos hlt', show ((n : Int) + 1) = ((n + 1 : Nat) : Int) by omega]
    exact ⟨_, _, .refl _, (by repeat (first | exact AHeap.le.refl _ | refine AHeap.le.set ?_ _ (by (repeat' (first | assumption | exact AHeap.z1 ‹_› | exact AHeap.z2 ‹_› | exact AHeap.z3 ‹_› | refine AHeap.so ?_ ?_ | exact AHeap.n1 ‹_› | exact AHeap.n2 ‹_› | exact AHeap.ne_of ‹_› ‹_› | exact AHeap.n4 ‹_› ‹_› | exact AHeap.n5 ‹_› | exact AHeap.n6 ‹_› | exact AHeap.n7 ‹_› ‹_› | exact AHeap.n8 ‹_› ‹_›)); first | done | fail) | refine AHeap.le.both ?_ _ _)), rfl, rfl⟩
  ·
    repeat' (first | refine S.nilK ?_ | (refine S.op rfl ?_; first | refine R.mv rfl ?_ | refine R.fieldAddr rfl ?_ | refine R.fieldAddrR rfl ?_ | refine R.nilCheck rfl ?_ | refine R.nilCheckR rfl ?_ | refine R.loadR rfl rfl ?_ | refine R.load (by decide) rfl (by (repeat' (first | assumption | exact AHeap.set_same _ _ _ | refine AHeap.get_fresh ‹_› ?_ | refine AHeap.so ?_ ?_ | exact AHeap.n1 ‹_› | exact AHeap.n2 ‹_› | exact AHeap.ne_of ‹_› ‹_› | exact AHeap.n4 ‹_› ‹_› | exact AHeap.n5 ‹_› | exact AHeap.n6 ‹_› | exact AHeap.n7 ‹_› ‹_› | exact AHeap.n8 ‹_› ‹_›)); first | done | fail) rfl ?_ | refine S.addI rfl rfl (by omega) ?_ | refine S.addU rfl rfl ?_ | refine S.addUc rfl (by decide) ?_ | refine R.len rfl ?_ | refine R.lenA rfl ?_ | refine R.lenStr rfl ?_ | refine R.alloc rfl (fun b hb => ?_) | refine R.build rfl rfl ?_ | ((first | refine S.lss rfl rfl ?_ ?_) <;> intro hlt <;> try (exfalso; omega))) | (refine S.op0 rfl ?_; first | refine S.storeS rfl rfl rfl (by rfl) rfl (by first | decide | exact Nat.le_refl _ | exact Nat.le_of_ble_eq_true rfl) ?_ | refine S.store rfl rfl (by (repeat' (first | assumption | exact AHeap.set_same _ _ _ | refine AHeap.get_fresh ‹_› ?_ | refine AHeap.so ?_ ?_ | exact AHeap.n1 ‹_› | exact AHeap.n2 ‹_› | exact AHeap.ne_of ‹_› ‹_› | exact AHeap.n4 ‹_› ‹_› | exact AHeap.n5 ‹_› | exact AHeap.n6 ‹_› | exact AHeap.n7 ‹_› ‹_› | exact AHeap.n8 ‹_› ‹_›)); first | done | fail) rfl rfl rfl (by rfl) rfl ?_) | refine S.skip rfl ?_ | refine S.skip0 rfl ?_ | refine S.seq ?_ | refine S.region ?_ | refine S.condT rfl ?_ | refine S.condF rfl ?_ | refine RRun.skip ?_ | refine RRun.block ?_ | refine RRun.inBlock ?_ | refine RRun.exit rfl ?_)
    apply S.ret rr57
    case hx => repeat (first | exact ResAt.nil | apply ResAt.tmp rfl | apply ResAt.cellA rfl (by (repeat' (first | assumption | exact AHeap.set_same _ _ _ | refine AHeap.get_fresh ‹_› ?_ | refine AHeap.so ?_ ?_ | exact AHeap.n1 ‹_› | exact AHeap.n2 ‹_› | exact AHeap.ne_of ‹_› ‹_› | exact AHeap.n4 ‹_› ‹_› | exact AHeap.n5 ‹_› | exact AHeap.n6 ‹_› | exact AHeap.n7 ‹_› ‹_› | exact AHeap.n8 ‹_› ‹_›)); first | done | fail) (by rfl) | apply ResAt.cell1 rfl (by (repeat' (first | assumption | exact AHeap.set_same _ _ _ | refine AHeap.get_fresh ‹_› ?_ | refine AHeap.so ?_ ?_ | exact AHeap.n1 ‹_› | exact AHeap.n2 ‹_› | exact AHeap.ne_of ‹_› ‹_› | exact AHeap.n4 ‹_› ‹_› | exact AHeap.n5 ‹_› | exact AHeap.n6 ‹_› | exact AHeap.n7 ‹_› ‹_› | exact AHeap.n8 ‹_› ‹_›)); first | done | fail) (by rfl))
    rw [fateAt, dif_neg hlt', show ((n : Int) + 1) = ((n + 1 : Nat) : Int) by omega]
    exact ⟨_, _, .refl _, (by repeat (first | exact AHeap.le.refl _ | refine AHeap.le.set ?_ _ (by (repeat' (first | assumption | exact AHeap.z1 ‹_› | exact AHeap.z2 ‹_› | exact AHeap.z3 ‹_› | refine AHeap.so ?_ ?_ | exact AHeap.n1 ‹_› | exact AHeap.n2 ‹_› | exact AHeap.ne_of ‹_› ‹_› | exact AHeap.n4 ‹_› ‹_› | exact AHeap.n5 ‹_› | exact AHeap.n6 ‹_› | exact AHeap.n7 ‹_› ‹_› | exact AHeap.n8 ‹_› ‹_›)); first | done | fail) | refine AHeap.le.both ?_ _ _)), rfl, rfl⟩

end Go.Proofs.Ytnmgamcmjjngcaa
