import Derived.Test.YtnmgamcmjjngcaaY1
set_option linter.unusedVariables false
set_option linter.unusedSimpArgs false
namespace Go.Proofs.Ytnmgamcmjjngcaa
open Go.Av

/-- A call that leaves the heap as told. -/
theorem callS {P : Program} {c : Cls} {E : AEnv} {h H : AHeap} {K : AV → AHeap → Prop} {f : FuncId} {args : List Operand} {avl : List AV} {x : AV} (hc : c = .act) (ha : avs E args = some avl) (hcall : ACalls P f avl h (fun x' h' => x' = x ∧ h' = H)) (hk : K x H) : ROpS P c (.call f args) E h K :=
  R.call hc ha (hcall.mono fun x' h' ⟨e1, e2⟩ => by subst e1; subst e2; exact hk)
/-- A call without a result. -/
theorem callU {P : Program} {c : Cls} {E : AEnv} {h H : AHeap} {K : AV → AHeap → Prop} {f : FuncId} {args : List Operand} {avl : List AV} (hc : c = .act) (ha : avs E args = some avl) (hcall : ACalls P f avl h (fun _ h' => h' = H)) (hk : ∀ x, K x H) : ROpS P c (.call f args) E h K :=
  R.call hc ha (hcall.mono fun x' h' e => by subst e; exact hk x')
theorem box_le {h : AHeap} {p : Nat} {o o' : ABlk} (ho : BLe o' o) : (h.set p o).le (h.set p o') :=
  AHeap.le.of_del ((AHeap.del_le h p).set _ (AHeap.del_same _ _)) (AHeap.set_same _ _ _) ho

/-! ### A reader: what is left, or that something failed -/

def dat (s : Option (List UInt8)) : List UInt8 := s.getD []
def rdr (s : Option (List UInt8)) : List AV := [bys (dat s), bl s.isSome]
def rdN (s : Option (List UInt8)) (most : UInt64) : UInt64 × Option (List UInt8) :=
  match s with
  | none => (0, none)
  | some b =>
    match numA 0 0 b with
    | none => (0, none)
    | some (v, n) => if most.toNat < v then (0, none) else (UInt64.ofNat v, some (b.drop n))
def rdE : Option (List UInt8) → Bool
  | some [] => true
  | _ => false

theorem bys_drop (b : List UInt8) (n : Nat) : .sl 1 ((Go.Av.byteCells b).drop n) .ro = bys (b.drop n) := by
  simp [bys, Go.Av.byteCells, List.map_drop]
theorem rdr_nil (v : Bool) : ALes [.v (.slice none 0 0), .v (.bool v)] [bys [], bl v] := .cons (.nilSl 1 (c := .ro) trivial) (.refl _)
theorem un_u64 {n : Nat} (h : n < 18446744073709551616) : un n = u64 (UInt64.ofNat n) := by
  show AV.v (.int .u64 (n : Int)) = .v (.int .u64 (((UInt64.ofNat n).toNat : Nat) : Int))
  rw [UInt64.toNat_ofNat_of_lt' h]

theorem rdN_len (s : Option (List UInt8)) (most : UInt64) (n : Nat) (h : (dat s).length ≤ n) : (dat (rdN s most).2).length ≤ n := by
  match s with
  | none => exact Nat.zero_le _
  | some b =>
    cases hn : numA 0 0 b with
    | none => simp only [rdN, hn]; exact Nat.zero_le _
    | some p =>
      obtain ⟨v, k⟩ := p
      simp only [rdN, hn]
      split
      · exact Nat.zero_le _
      · simp only [dat, Option.getD_some, List.length_drop] at h ⊢; omega

/-- (*plenum/row.Reader).ok -/
def r91 : RCode :=
  (.seq (.region [
    ⟨(some 2), none, .act, .mv (.const (.bool false))⟩])
  (.seq (.region [
    ⟨(some 3), none, .act, .mv (.tmp 0)⟩,
    ⟨(some 4), none, .act, .eq true .ptr (.tmp 3) (.const (.pointer none))⟩,
    ⟨(some 5), none, .act, .mv (.tmp 4)⟩,
    ⟨(some 6), (some (5, true)), .act, .mv (.tmp 0)⟩,
    ⟨(some 7), (some (5, true)), .act, .nilCheck (.tmp 6)⟩,
    ⟨(some 8), (some (5, true)), .act, .fieldAddr 1 (.tmp 7)⟩,
    ⟨(some 9), (some (5, true)), .act, .load false 1 (.tmp 8)⟩,
    ⟨(some 10), none, .act, .pick (.tmp 5) (.tmp 9) (.const (.bool false))⟩,
    ⟨(some 2), none, .act, .mv (.tmp 10)⟩])
  .ret))
theorem res91 : ∃ c, Try.f91.body = some c ∧ resCode Try.prog 11 c = some r91 := ⟨_, rfl, by kernel_rfl⟩
theorem rr91 : resRes Try.prog Try.f91.results.toList = some [.tmp 2] := by kernel_rfl
theorem ok_spec (s : Option (List UInt8)) (p : Nat) (h : AHeap) (hp : h p = some (.box (rdr s))) : ACalls Try.prog 91 [ptr p] h (fun x h' => x = bl s.isSome ∧ h' = h) := by
  obtain ⟨c, hc1, hc2⟩ := res91
  refine ACalls.enter Try.func91 hc1 Try.ntmps91 hc2 (Nat.le_of_ble_eq_true rfl) rfl ?_
  repeat' (first | refine S.nilK ?_ | (refine S.op rfl ?_; first | refine R.mv rfl ?_ | refine R.fieldAddr rfl ?_ | refine R.fieldAddrR rfl ?_ | refine R.nilCheck rfl ?_ | refine R.nilCheckR rfl ?_ | refine R.loadR rfl rfl ?_ | refine R.load (by decide) rfl (by (repeat' (first | assumption | exact AHeap.set_same _ _ _ | refine AHeap.get_fresh ‹_› ?_ | refine AHeap.so ?_ ?_ | exact AHeap.n1 ‹_› | exact AHeap.n2 ‹_› | exact AHeap.ne_of ‹_› ‹_› | exact AHeap.n4 ‹_› ‹_› | exact AHeap.n5 ‹_› | exact AHeap.n6 ‹_› | exact AHeap.n7 ‹_› ‹_› | exact AHeap.n8 ‹_› ‹_›)); first | done | fail) rfl ?_ | refine R.pickT rfl rfl ?_ | refine R.pickF rfl rfl ?_ | refine R.eqPtrNil rfl rfl ?_ | ((first | refine S.eqInt rfl rfl ?_ ?_) <;> intro hlt <;> try (exfalso; omega))) | refine S.skip rfl ?_ | refine S.skip0 rfl ?_ | refine S.seq ?_ | refine S.region ?_ | refine S.condT rfl ?_ | refine S.condF rfl ?_ | refine RRun.skip ?_ | refine RRun.block ?_ | refine RRun.inBlock ?_ | refine RRun.exit rfl ?_)
  apply S.ret rr91
  case hx => repeat (first | exact ResAt.nil | apply ResAt.tmp rfl | apply ResAt.cellA rfl (by (repeat' (first | assumption | exact AHeap.set_same _ _ _ | refine AHeap.get_fresh ‹_› ?_ | refine AHeap.so ?_ ?_ | exact AHeap.n1 ‹_› | exact AHeap.n2 ‹_› | exact AHeap.ne_of ‹_› ‹_› | exact AHeap.n4 ‹_› ‹_› | exact AHeap.n5 ‹_› | exact AHeap.n6 ‹_› | exact AHeap.n7 ‹_› ‹_› | exact AHeap.n8 ‹_› ‹_›)); first | done | fail) (by rfl) | apply ResAt.cell1 rfl (by (repeat' (first | assumption | exact AHeap.set_same _ _ _ | refine AHeap.get_fresh ‹_› ?_ | refine AHeap.so ?_ ?_ | exact AHeap.n1 ‹_› | exact AHeap.n2 ‹_› | exact AHeap.ne_of ‹_› ‹_› | exact AHeap.n4 ‹_› ‹_› | exact AHeap.n5 ‹_› | exact AHeap.n6 ‹_› | exact AHeap.n7 ‹_› ‹_› | exact AHeap.n8 ‹_› ‹_›)); first | done | fail) (by rfl))
  exact ⟨rfl, rfl⟩

/-- (*plenum/row.Reader).fail -/
def r93 : RCode :=
  (.seq (.region [
    ⟨(some 2), none, .act, .mv (.tmp 0)⟩,
    ⟨(some 3), none, .act, .eq true .ptr (.tmp 2) (.const (.pointer none))⟩])
  (.cond (.tmp 3)
   (.region [
     ⟨(some 4), none, .act, .mv (.tmp 0)⟩,
     ⟨(some 5), none, .act, .mv (.tmp 0)⟩,
     ⟨(some 6), none, .act, .nilCheck (.tmp 4)⟩,
     ⟨(some 7), none, .act, .fieldAddr 0 (.tmp 6)⟩,
     ⟨none, none, .act, .store 1 (.tmp 7) (.const (.slice none 0 0))⟩,
     ⟨(some 8), none, .act, .nilCheck (.tmp 5)⟩,
     ⟨(some 9), none, .act, .fieldAddr 1 (.tmp 8)⟩,
     ⟨none, none, .act, .store 1 (.tmp 9) (.const (.bool false))⟩])
   .skip))
theorem res93 : ∃ c, Try.f93.body = some c ∧ resCode Try.prog 10 c = some r93 := ⟨_, rfl, by kernel_rfl⟩
theorem rr93 : resRes Try.prog Try.f93.results.toList = some [] := by kernel_rfl
theorem fail_spec (s : Option (List UInt8)) (p : Nat) (h : AHeap) (hp : h p = some (.box (rdr s))) : ACalls Try.prog 93 [ptr p] h (fun _ h' => h' = h.set p (.box (rdr none))) := by
  obtain ⟨c, hc1, hc2⟩ := res93
  refine ACalls.weak (ACalls.enter Try.func93 hc1 Try.ntmps93 hc2 (Nat.le_of_ble_eq_true rfl) rfl ?_)
  repeat' (first | refine S.nilK ?_ | (refine S.op rfl ?_; first | refine R.mv rfl ?_ | refine R.fieldAddr rfl ?_ | refine R.fieldAddrR rfl ?_ | refine R.nilCheck rfl ?_ | refine R.nilCheckR rfl ?_ | refine R.eqPtrNil rfl rfl ?_ | ((first | refine S.eqInt rfl rfl ?_ ?_) <;> intro hlt <;> try (exfalso; omega))) | (refine S.op0 rfl ?_; first | refine S.storeS rfl rfl rfl (by rfl) rfl (by first | decide | exact Nat.le_refl _ | exact Nat.le_of_ble_eq_true rfl) ?_ | refine S.store rfl rfl (by (repeat' (first | assumption | exact AHeap.set_same _ _ _ | refine AHeap.get_fresh ‹_› ?_ | refine AHeap.so ?_ ?_ | exact AHeap.n1 ‹_› | exact AHeap.n2 ‹_› | exact AHeap.ne_of ‹_› ‹_› | exact AHeap.n4 ‹_› ‹_› | exact AHeap.n5 ‹_› | exact AHeap.n6 ‹_› | exact AHeap.n7 ‹_› ‹_› | exact AHeap.n8 ‹_› ‹_›)); first | done | fail) rfl rfl rfl (by rfl) rfl ?_) | refine S.skip rfl ?_ | refine S.skip0 rfl ?_ | refine S.seq ?_ | refine S.region ?_ | refine S.condT rfl ?_ | refine S.condF rfl ?_ | refine RRun.skip ?_ | refine RRun.block ?_ | refine RRun.inBlock ?_ | refine RRun.exit rfl ?_)
  apply S.done rr93
  case hx => repeat (first | exact ResAt.nil | apply ResAt.tmp rfl | apply ResAt.cellA rfl (by (repeat' (first | assumption | exact AHeap.set_same _ _ _ | refine AHeap.get_fresh ‹_› ?_ | refine AHeap.so ?_ ?_ | exact AHeap.n1 ‹_› | exact AHeap.n2 ‹_› | exact AHeap.ne_of ‹_› ‹_› | exact AHeap.n4 ‹_› ‹_› | exact AHeap.n5 ‹_› | exact AHeap.n6 ‹_› | exact AHeap.n7 ‹_› ‹_› | exact AHeap.n8 ‹_› ‹_›)); first | done | fail) (by rfl) | apply ResAt.cell1 rfl (by (repeat' (first | assumption | exact AHeap.set_same _ _ _ | refine AHeap.get_fresh ‹_› ?_ | refine AHeap.so ?_ ?_ | exact AHeap.n1 ‹_› | exact AHeap.n2 ‹_› | exact AHeap.ne_of ‹_› ‹_› | exact AHeap.n4 ‹_› ‹_› | exact AHeap.n5 ‹_› | exact AHeap.n6 ‹_› | exact AHeap.n7 ‹_› ‹_› | exact AHeap.n8 ‹_› ‹_›)); first | done | fail) (by rfl))
  refine ⟨_, _, .refl _, ?_, rfl⟩
  exact box_le (.box (rdr_nil false))

/-- plenum/row.Read -/
def r73 : RCode :=
  (.seq (.region [
    ⟨(some 2), none, .act, .mv (.const (.pointer none))⟩])
  (.seq (.region [
    ⟨(some 3), none, .act, .mv (.tmp 0)⟩,
    ⟨(some 4), none, .act, .append 1 1 [(.int .u8 0)] (.const (.slice none 0 0)) (.tmp 3)⟩,
    ⟨(some 5), none, .act, .build [(.slice none 0 0), (.bool false)] [(0, 1, (.tmp 4)), (1, 1, (.const (.bool true)))]⟩,
    ⟨(some 6), none, .act, .box (.tmp 5)⟩,
    ⟨(some 2), none, .act, .mv (.tmp 6)⟩])
  .ret))
theorem res73 : ∃ c, Try.f73.body = some c ∧ resCode Try.prog 7 c = some r73 := ⟨_, rfl, by kernel_rfl⟩
theorem rr73 : resRes Try.prog Try.f73.results.toList = some [.tmp 2] := by kernel_rfl
theorem read_spec (b : List UInt8) (hb : b.length ≤ 140737488355328) (h : AHeap) : ACalls Try.prog 73 [bys b] h (fun x h' => ∃ p, h p = none ∧ x = ptr p ∧ h' = h.set p (.box (rdr (some b)))) := by
  obtain ⟨c, hc1, hc2⟩ := res73
  refine ACalls.weak (ACalls.enter Try.func73 hc1 Try.ntmps73 hc2 (Nat.le_of_ble_eq_true rfl) rfl ?_)
  repeat' (first | refine S.nilK ?_ | (refine S.op rfl ?_; first | refine R.mv rfl ?_ | refine R.box rfl rfl rfl (fun b hb => ?_) | refine R.build rfl rfl ?_) | refine S.skip rfl ?_ | refine S.skip0 rfl ?_ | refine S.seq ?_ | refine S.region ?_ | refine S.condT rfl ?_ | refine S.condF rfl ?_ | refine RRun.skip ?_ | refine RRun.block ?_ | refine RRun.inBlock ?_ | refine RRun.exit rfl ?_)
  refine S.op rfl (R.appendV rfl .nil rfl (.sl _ _) ?_ ?_ ?_ ?_)
  · exact one_bytes b
  · simp [len_bytes, chunks]; omega
  · simp [len_bytes, chunks]; omega
  ·
    repeat' (first | refine S.nilK ?_ | (refine S.op rfl ?_; first | refine R.mv rfl ?_ | refine R.box rfl rfl rfl (fun b hb => ?_) | refine R.build rfl rfl ?_) | refine S.skip rfl ?_ | refine S.skip0 rfl ?_ | refine S.seq ?_ | refine S.region ?_ | refine S.condT rfl ?_ | refine S.condF rfl ?_ | refine RRun.skip ?_ | refine RRun.block ?_ | refine RRun.inBlock ?_ | refine RRun.exit rfl ?_)
    apply S.ret rr73
    case hx => repeat (first | exact ResAt.nil | apply ResAt.tmp rfl | apply ResAt.cellA rfl (by (repeat' (first | assumption | exact AHeap.set_same _ _ _ | refine AHeap.get_fresh ‹_› ?_ | refine AHeap.so ?_ ?_ | exact AHeap.n1 ‹_› | exact AHeap.n2 ‹_› | exact AHeap.ne_of ‹_› ‹_› | exact AHeap.n4 ‹_› ‹_› | exact AHeap.n5 ‹_› | exact AHeap.n6 ‹_› | exact AHeap.n7 ‹_› ‹_› | exact AHeap.n8 ‹_› ‹_›)); first | done | fail) (by rfl) | apply ResAt.cell1 rfl (by (repeat' (first | assumption | exact AHeap.set_same _ _ _ | refine AHeap.get_fresh ‹_› ?_ | refine AHeap.so ?_ ?_ | exact AHeap.n1 ‹_› | exact AHeap.n2 ‹_› | exact AHeap.ne_of ‹_› ‹_› | exact AHeap.n4 ‹_› ‹_› | exact AHeap.n5 ‹_› | exact AHeap.n6 ‹_› | exact AHeap.n7 ‹_› ‹_› | exact AHeap.n8 ‹_› ‹_›)); first | done | fail) (by rfl))
    exact ⟨_, _, .refl _, .refl _, _, by assumption, rfl, rfl⟩

/-- (*plenum/row.Reader).N -/
def r74 : RCode :=
  (.seq (.region [
    ⟨(some 4), none, .act, .mv (.const (.int .u64 0))⟩])
  (.seq (.seq (.region [
    ⟨(some 7), none, .act, .mv (.tmp 0)⟩,
    ⟨(some 8), none, .act, .call 91 [(.tmp 7)]⟩,
    ⟨(some 9), none, .act, .un .not (.tmp 8)⟩])
  (.cond (.tmp 9)
   (.seq (.region [
     ⟨(some 4), none, .act, .mv (.const (.int .u64 0))⟩])
   .ret)
   .skip))
  (.seq (.region [
    ⟨(some 11), none, .act, .mv (.tmp 0)⟩,
    ⟨(some 12), none, .act, .nilCheck (.tmp 11)⟩,
    ⟨(some 13), none, .act, .fieldAddr 0 (.tmp 12)⟩,
    ⟨(some 14), none, .act, .load false 1 (.tmp 13)⟩,
    ⟨(some 15), none, .act, .call 92 [(.tmp 14)]⟩,
    ⟨(some 10), none, .act, .mv (.tmp 15)⟩,
    ⟨(some 16), none, .act, .extract (.tmp 10) 0⟩,
    ⟨(some 17), none, .act, .extract (.tmp 10) 1⟩,
    ⟨(some 5), none, .act, .mv (.tmp 16)⟩,
    ⟨(some 6), none, .act, .mv (.tmp 17)⟩])
  (.seq (.seq (.region [
    ⟨(some 18), none, .act, .mv (.tmp 6)⟩,
    ⟨(some 19), none, .act, .eq false .int (.tmp 18) (.const (.int .i64 0))⟩,
    ⟨(some 20), none, .act, .mv (.tmp 19)⟩,
    ⟨(some 21), (some (20, false)), .act, .mv (.tmp 5)⟩,
    ⟨(some 22), (some (20, false)), .act, .mv (.tmp 1)⟩,
    ⟨(some 23), (some (20, false)), .act, .bin .gtr (.tmp 21) (.tmp 22)⟩,
    ⟨(some 24), none, .act, .pick (.tmp 20) (.const (.bool true)) (.tmp 23)⟩])
  (.cond (.tmp 24)
   (.seq (.region [
     ⟨(some 25), none, .act, .mv (.tmp 0)⟩,
     ⟨(some 26), none, .act, .call 93 [(.tmp 25)]⟩])
   (.seq (.region [
     ⟨(some 4), none, .act, .mv (.const (.int .u64 0))⟩])
   .ret))
   .skip))
  (.seq (.region [
    ⟨(some 27), none, .act, .mv (.tmp 0)⟩,
    ⟨(some 28), none, .act, .mv (.tmp 0)⟩,
    ⟨(some 29), none, .act, .nilCheck (.tmp 28)⟩,
    ⟨(some 30), none, .act, .fieldAddr 0 (.tmp 29)⟩,
    ⟨(some 31), none, .act, .load false 1 (.tmp 30)⟩,
    ⟨(some 32), none, .act, .mv (.tmp 6)⟩,
    ⟨(some 33), none, .act, .sliceSl 1 (.tmp 31) (some (.tmp 32)) none none⟩,
    ⟨(some 34), none, .act, .nilCheck (.tmp 27)⟩,
    ⟨(some 35), none, .act, .fieldAddr 0 (.tmp 34)⟩,
    ⟨none, none, .act, .store 1 (.tmp 35) (.tmp 33)⟩])
  (.seq (.region [
    ⟨(some 36), none, .act, .mv (.tmp 5)⟩,
    ⟨(some 4), none, .act, .mv (.tmp 36)⟩])
  .ret))))))
theorem res74 : ∃ c, Try.f74.body = some c ∧ resCode Try.prog 37 c = some r74 := ⟨_, rfl, by kernel_rfl⟩
theorem rr74 : resRes Try.prog Try.f74.results.toList = some [.tmp 4] := by kernel_rfl
theorem rN_spec (s : Option (List UInt8)) (hs : (dat s).length ≤ 140737488355328) (most : UInt64) (p : Nat) (h : AHeap) (hp : h p = some (.box (rdr s))) :
    ACalls Try.prog 74 [ptr p, u64 most] h (fun x h' => x = u64 (rdN s most).1 ∧ h' = h.set p (.box (rdr (rdN s most).2))) := by
  have c91 := ok_spec s p h hp
  have c93 := fail_spec s p h hp
  obtain ⟨c, hc1, hc2⟩ := res74
  refine ACalls.weak (ACalls.enter Try.func74 hc1 Try.ntmps74 hc2 (Nat.le_of_ble_eq_true rfl) rfl ?_)
  match s, hs, hp, c91, c93 with
  | none, hs, hp, c91, c93 =>
    repeat' (first | refine S.nilK ?_ | (refine S.op rfl ?_; first | refine R.callQ (by decide) rfl c91 ?_ | refine R.mv rfl ?_ | refine R.fieldAddr rfl ?_ | refine R.fieldAddrR rfl ?_ | refine R.nilCheck rfl ?_ | refine R.nilCheckR rfl ?_ | refine R.loadR rfl rfl ?_ | refine R.load (by decide) rfl (by (repeat' (first | assumption | exact AHeap.set_same _ _ _ | refine AHeap.get_fresh ‹_› ?_ | refine AHeap.so ?_ ?_ | exact AHeap.n1 ‹_› | exact AHeap.n2 ‹_› | exact AHeap.ne_of ‹_› ‹_› | exact AHeap.n4 ‹_› ‹_› | exact AHeap.n5 ‹_› | exact AHeap.n6 ‹_› | exact AHeap.n7 ‹_› ‹_› | exact AHeap.n8 ‹_› ‹_›)); first | done | fail) rfl ?_ | refine R.pickT rfl rfl ?_ | refine R.pickF rfl rfl ?_ | refine R.not rfl ?_ | refine R.eqPtrNil rfl rfl ?_ | refine R.extract rfl rfl ?_ | ((first | refine S.gtr rfl rfl ?_ ?_ | refine S.eqInt rfl rfl ?_ ?_) <;> intro hlt <;> try (exfalso; omega))) | (refine S.op0 rfl ?_; first | refine S.storeS rfl rfl rfl (by rfl) rfl (by first | decide | exact Nat.le_refl _ | exact Nat.le_of_ble_eq_true rfl) ?_ | refine S.store rfl rfl (by (repeat' (first | assumption | exact AHeap.set_same _ _ _ | refine AHeap.get_fresh ‹_› ?_ | refine AHeap.so ?_ ?_ | exact AHeap.n1 ‹_› | exact AHeap.n2 ‹_› | exact AHeap.ne_of ‹_› ‹_› | exact AHeap.n4 ‹_› ‹_› | exact AHeap.n5 ‹_› | exact AHeap.n6 ‹_› | exact AHeap.n7 ‹_› ‹_› | exact AHeap.n8 ‹_› ‹_›)); first | done | fail) rfl rfl rfl (by rfl) rfl ?_) | refine S.skip rfl ?_ | refine S.skip0 rfl ?_ | refine S.seq ?_ | refine S.region ?_ | refine S.condT rfl ?_ | refine S.condF rfl ?_ | refine RRun.skip ?_ | refine RRun.block ?_ | refine RRun.inBlock ?_ | refine RRun.exit rfl ?_)
    apply S.ret rr74
    case hx => repeat (first | exact ResAt.nil | apply ResAt.tmp rfl | apply ResAt.cellA rfl (by (repeat' (first | assumption | exact AHeap.set_same _ _ _ | refine AHeap.get_fresh ‹_› ?_ | refine AHeap.so ?_ ?_ | exact AHeap.n1 ‹_› | exact AHeap.n2 ‹_› | exact AHeap.ne_of ‹_› ‹_› | exact AHeap.n4 ‹_› ‹_› | exact AHeap.n5 ‹_› | exact AHeap.n6 ‹_› | exact AHeap.n7 ‹_› ‹_› | exact AHeap.n8 ‹_› ‹_›)); first | done | fail) (by rfl) | apply ResAt.cell1 rfl (by (repeat' (first | assumption | exact AHeap.set_same _ _ _ | refine AHeap.get_fresh ‹_› ?_ | refine AHeap.so ?_ ?_ | exact AHeap.n1 ‹_› | exact AHeap.n2 ‹_› | exact AHeap.ne_of ‹_› ‹_› | exact AHeap.n4 ‹_› ‹_› | exact AHeap.n5 ‹_› | exact AHeap.n6 ‹_› | exact AHeap.n7 ‹_› ‹_› | exact AHeap.n8 ‹_› ‹_›)); first | done | fail) (by rfl))
    refine ⟨_, _, .refl _, ?_, rfl, rfl⟩
    rw [show (rdN none most).2 = none from rfl, AHeap.set_eq h hp]
    exact .refl _
  | some b, hs, hp, c91, c93 =>
    have hb : b.length ≤ 140737488355328 := hs
    have c92 := number_spec b hb h
    cases hn : numA 0 0 b with
    | none =>
      have e1 : numP b = (0, 0) := by rw [numP, hn]; rfl
      have e2 : rdN (some b) most = (0, none) := by simp only [rdN, hn]
      replace c92 : ACalls Try.prog 92 [bys b] h (fun x h' => x = .tu [un 0, i64 0] ∧ h' = h) := by rw [e1] at c92; exact c92
      rw [e2]
      repeat' (first | refine S.nilK ?_ | (refine S.op rfl ?_; first | refine R.callQ (by decide) rfl c91 ?_ | refine R.callQ (by decide) rfl c92 ?_ | refine callU rfl rfl c93 (fun _ => ?_) | refine R.mv rfl ?_ | refine R.fieldAddr rfl ?_ | refine R.fieldAddrR rfl ?_ | refine R.nilCheck rfl ?_ | refine R.nilCheckR rfl ?_ | refine R.loadR rfl rfl ?_ | refine R.load (by decide) rfl (by (repeat' (first | assumption | exact AHeap.set_same _ _ _ | refine AHeap.get_fresh ‹_› ?_ | refine AHeap.so ?_ ?_ | exact AHeap.n1 ‹_› | exact AHeap.n2 ‹_› | exact AHeap.ne_of ‹_› ‹_› | exact AHeap.n4 ‹_› ‹_› | exact AHeap.n5 ‹_› | exact AHeap.n6 ‹_› | exact AHeap.n7 ‹_› ‹_› | exact AHeap.n8 ‹_› ‹_›)); first | done | fail) rfl ?_ | refine R.pickT rfl rfl ?_ | refine R.pickF rfl rfl ?_ | refine R.not rfl ?_ | refine R.eqPtrNil rfl rfl ?_ | refine R.extract rfl rfl ?_ | ((first | refine S.gtr rfl rfl ?_ ?_ | refine S.eqInt rfl rfl ?_ ?_) <;> intro hlt <;> try (exfalso; omega))) | (refine S.op0 rfl ?_; first | refine S.storeS rfl rfl rfl (by rfl) rfl (by first | decide | exact Nat.le_refl _ | exact Nat.le_of_ble_eq_true rfl) ?_ | refine S.store rfl rfl (by (repeat' (first | assumption | exact AHeap.set_same _ _ _ | refine AHeap.get_fresh ‹_› ?_ | refine AHeap.so ?_ ?_ | exact AHeap.n1 ‹_› | exact AHeap.n2 ‹_› | exact AHeap.ne_of ‹_› ‹_› | exact AHeap.n4 ‹_› ‹_› | exact AHeap.n5 ‹_› | exact AHeap.n6 ‹_› | exact AHeap.n7 ‹_› ‹_› | exact AHeap.n8 ‹_› ‹_›)); first | done | fail) rfl rfl rfl (by rfl) rfl ?_) | refine S.skip rfl ?_ | refine S.skip0 rfl ?_ | refine S.seq ?_ | refine S.region ?_ | refine S.condT rfl ?_ | refine S.condF rfl ?_ | refine RRun.skip ?_ | refine RRun.block ?_ | refine RRun.inBlock ?_ | refine RRun.exit rfl ?_)
      apply S.ret rr74
      case hx => repeat (first | exact ResAt.nil | apply ResAt.tmp rfl | apply ResAt.cellA rfl (by (repeat' (first | assumption | exact AHeap.set_same _ _ _ | refine AHeap.get_fresh ‹_› ?_ | refine AHeap.so ?_ ?_ | exact AHeap.n1 ‹_› | exact AHeap.n2 ‹_› | exact AHeap.ne_of ‹_› ‹_› | exact AHeap.n4 ‹_› ‹_› | exact AHeap.n5 ‹_› | exact AHeap.n6 ‹_› | exact AHeap.n7 ‹_› ‹_› | exact AHeap.n8 ‹_› ‹_›)); first | done | fail) (by rfl) | apply ResAt.cell1 rfl (by (repeat' (first | assumption | exact AHeap.set_same _ _ _ | refine AHeap.get_fresh ‹_› ?_ | refine AHeap.so ?_ ?_ | exact AHeap.n1 ‹_› | exact AHeap.n2 ‹_› | exact AHeap.ne_of ‹_› ‹_› | exact AHeap.n4 ‹_› ‹_› | exact AHeap.n5 ‹_› | exact AHeap.n6 ‹_› | exact AHeap.n7 ‹_› ‹_› | exact AHeap.n8 ‹_› ‹_›)); first | done | fail) (by rfl))
      exact ⟨_, _, .refl _, .refl _, rfl, rfl⟩
    | some vn =>
      obtain ⟨v, n⟩ := vn
      have e1 : numP b = (v, n) := by rw [numP, hn]; rfl
      obtain ⟨g1, g2, g3⟩ := numA_lt b 0 0 v n hn
      replace c92 : ACalls Try.prog 92 [bys b] h (fun x h' => x = .tu [un v, i64 n] ∧ h' = h) := by rw [e1] at c92; exact c92
      have hlen : (Go.Av.byteCells (dat (some b))).length = b.length := len_bytes b
      by_cases hm : most.toNat < v
      · have e2 : rdN (some b) most = (0, none) := by simp only [rdN, hn]; rw [if_pos hm]
        rw [e2]
        repeat' (first | refine S.nilK ?_ | (refine S.op rfl ?_; first | refine R.callQ (by decide) rfl c91 ?_ | refine R.callQ (by decide) rfl c92 ?_ | refine callU rfl rfl c93 (fun _ => ?_) | refine R.mv rfl ?_ | refine R.fieldAddr rfl ?_ | refine R.fieldAddrR rfl ?_ | refine R.nilCheck rfl ?_ | refine R.nilCheckR rfl ?_ | refine R.loadR rfl rfl ?_ | refine R.load (by decide) rfl (by (repeat' (first | assumption | exact AHeap.set_same _ _ _ | refine AHeap.get_fresh ‹_› ?_ | refine AHeap.so ?_ ?_ | exact AHeap.n1 ‹_› | exact AHeap.n2 ‹_› | exact AHeap.ne_of ‹_› ‹_› | exact AHeap.n4 ‹_› ‹_› | exact AHeap.n5 ‹_› | exact AHeap.n6 ‹_› | exact AHeap.n7 ‹_› ‹_› | exact AHeap.n8 ‹_› ‹_›)); first | done | fail) rfl ?_ | refine R.pickT rfl rfl ?_ | refine R.pickF rfl rfl ?_ | refine R.not rfl ?_ | refine R.eqPtrNil rfl rfl ?_ | refine R.extract rfl rfl ?_ | ((first | refine S.gtr rfl rfl ?_ ?_ | refine S.eqInt rfl rfl ?_ ?_) <;> intro hlt <;> try (exfalso; omega))) | (refine S.op0 rfl ?_; first | refine S.storeS rfl rfl rfl (by rfl) rfl (by first | decide | exact Nat.le_refl _ | exact Nat.le_of_ble_eq_true rfl) ?_ | refine S.store rfl rfl (by (repeat' (first | assumption | exact AHeap.set_same _ _ _ | refine AHeap.get_fresh ‹_› ?_ | refine AHeap.so ?_ ?_ | exact AHeap.n1 ‹_› | exact AHeap.n2 ‹_› | exact AHeap.ne_of ‹_› ‹_› | exact AHeap.n4 ‹_› ‹_› | exact AHeap.n5 ‹_› | exact AHeap.n6 ‹_› | exact AHeap.n7 ‹_› ‹_› | exact AHeap.n8 ‹_› ‹_›)); first | done | fail) rfl rfl rfl (by rfl) rfl ?_) | refine S.skip rfl ?_ | refine S.skip0 rfl ?_ | refine S.seq ?_ | refine S.region ?_ | refine S.condT rfl ?_ | refine S.condF rfl ?_ | refine RRun.skip ?_ | refine RRun.block ?_ | refine RRun.inBlock ?_ | refine RRun.exit rfl ?_)
        apply S.ret rr74
        case hx => repeat (first | exact ResAt.nil | apply ResAt.tmp rfl | apply ResAt.cellA rfl (by (repeat' (first | assumption | exact AHeap.set_same _ _ _ | refine AHeap.get_fresh ‹_› ?_ | refine AHeap.so ?_ ?_ | exact AHeap.n1 ‹_› | exact AHeap.n2 ‹_› | exact AHeap.ne_of ‹_› ‹_› | exact AHeap.n4 ‹_› ‹_› | exact AHeap.n5 ‹_› | exact AHeap.n6 ‹_› | exact AHeap.n7 ‹_› ‹_› | exact AHeap.n8 ‹_› ‹_›)); first | done | fail) (by rfl) | apply ResAt.cell1 rfl (by (repeat' (first | assumption | exact AHeap.set_same _ _ _ | refine AHeap.get_fresh ‹_› ?_ | refine AHeap.so ?_ ?_ | exact AHeap.n1 ‹_› | exact AHeap.n2 ‹_› | exact AHeap.ne_of ‹_› ‹_› | exact AHeap.n4 ‹_› ‹_› | exact AHeap.n5 ‹_› | exact AHeap.n6 ‹_› | exact AHeap.n7 ‹_› ‹_› | exact AHeap.n8 ‹_› ‹_›)); first | done | fail) (by rfl))
        exact ⟨_, _, .refl _, .refl _, rfl, rfl⟩
      · have e2 : rdN (some b) most = (UInt64.ofNat v, some (b.drop n)) := by simp only [rdN, hn]; rw [if_neg hm]
        rw [e2]
        repeat' (first | refine S.nilK ?_ | (refine S.op rfl ?_; first | refine R.callQ (by decide) rfl c91 ?_ | refine R.callQ (by decide) rfl c92 ?_ | refine callU rfl rfl c93 (fun _ => ?_) | refine S.sliceL rfl rfl (by omega) (by omega) (by decide) ?_ | refine R.mv rfl ?_ | refine R.fieldAddr rfl ?_ | refine R.fieldAddrR rfl ?_ | refine R.nilCheck rfl ?_ | refine R.nilCheckR rfl ?_ | refine R.loadR rfl rfl ?_ | refine R.load (by decide) rfl (by (repeat' (first | assumption | exact AHeap.set_same _ _ _ | refine AHeap.get_fresh ‹_› ?_ | refine AHeap.so ?_ ?_ | exact AHeap.n1 ‹_› | exact AHeap.n2 ‹_› | exact AHeap.ne_of ‹_› ‹_› | exact AHeap.n4 ‹_› ‹_› | exact AHeap.n5 ‹_› | exact AHeap.n6 ‹_› | exact AHeap.n7 ‹_› ‹_› | exact AHeap.n8 ‹_› ‹_›)); first | done | fail) rfl ?_ | refine R.pickT rfl rfl ?_ | refine R.pickF rfl rfl ?_ | refine R.not rfl ?_ | refine R.eqPtrNil rfl rfl ?_ | refine R.extract rfl rfl ?_ | ((first | refine S.gtr rfl rfl ?_ ?_ | refine S.eqInt rfl rfl ?_ ?_) <;> intro hlt <;> try (exfalso; omega))) | (refine S.op0 rfl ?_; first | refine S.storeS rfl rfl rfl (by rfl) rfl (by first | decide | exact Nat.le_refl _ | exact Nat.le_of_ble_eq_true rfl) ?_ | refine S.store rfl rfl (by (repeat' (first | assumption | exact AHeap.set_same _ _ _ | refine AHeap.get_fresh ‹_› ?_ | refine AHeap.so ?_ ?_ | exact AHeap.n1 ‹_› | exact AHeap.n2 ‹_› | exact AHeap.ne_of ‹_› ‹_› | exact AHeap.n4 ‹_› ‹_› | exact AHeap.n5 ‹_› | exact AHeap.n6 ‹_› | exact AHeap.n7 ‹_› ‹_› | exact AHeap.n8 ‹_› ‹_›)); first | done | fail) rfl rfl rfl (by rfl) rfl ?_) | refine S.skip rfl ?_ | refine S.skip0 rfl ?_ | refine S.seq ?_ | refine S.region ?_ | refine S.condT rfl ?_ | refine S.condF rfl ?_ | refine RRun.skip ?_ | refine RRun.block ?_ | refine RRun.inBlock ?_ | refine RRun.exit rfl ?_)
        apply S.ret rr74
        case hx => repeat (first | exact ResAt.nil | apply ResAt.tmp rfl | apply ResAt.cellA rfl (by (repeat' (first | assumption | exact AHeap.set_same _ _ _ | refine AHeap.get_fresh ‹_› ?_ | refine AHeap.so ?_ ?_ | exact AHeap.n1 ‹_› | exact AHeap.n2 ‹_› | exact AHeap.ne_of ‹_› ‹_› | exact AHeap.n4 ‹_› ‹_› | exact AHeap.n5 ‹_› | exact AHeap.n6 ‹_› | exact AHeap.n7 ‹_› ‹_› | exact AHeap.n8 ‹_› ‹_›)); first | done | fail) (by rfl) | apply ResAt.cell1 rfl (by (repeat' (first | assumption | exact AHeap.set_same _ _ _ | refine AHeap.get_fresh ‹_› ?_ | refine AHeap.so ?_ ?_ | exact AHeap.n1 ‹_› | exact AHeap.n2 ‹_› | exact AHeap.ne_of ‹_› ‹_› | exact AHeap.n4 ‹_› ‹_› | exact AHeap.n5 ‹_› | exact AHeap.n6 ‹_› | exact AHeap.n7 ‹_› ‹_› | exact AHeap.n8 ‹_› ‹_›)); first | done | fail) (by rfl))
        refine ⟨_, _, .refl _, box_le (.box ?_), (un_u64 g1), rfl⟩
        refine .cons ?_ (.refl _)
        show ALe (.sl 1 ((Go.Av.byteCells b).drop n) .ro) (bys (b.drop n))
        rw [bys_drop]
        exact .refl _

/-- (*plenum/row.Reader).End -/
def r75 : RCode :=
  (.seq (.region [
    ⟨(some 2), none, .act, .mv (.const (.int .i64 0))⟩])
  (.seq (.seq (.region [
    ⟨(some 3), none, .act, .mv (.tmp 0)⟩,
    ⟨(some 4), none, .act, .call 91 [(.tmp 3)]⟩,
    ⟨(some 5), none, .act, .un .not (.tmp 4)⟩,
    ⟨(some 6), none, .act, .mv (.tmp 5)⟩,
    ⟨(some 7), (some (6, false)), .act, .mv (.tmp 0)⟩,
    ⟨(some 8), (some (6, false)), .act, .nilCheck (.tmp 7)⟩,
    ⟨(some 9), (some (6, false)), .act, .fieldAddr 0 (.tmp 8)⟩,
    ⟨(some 10), (some (6, false)), .act, .load false 1 (.tmp 9)⟩,
    ⟨(some 11), (some (6, false)), .act, .len (.tmp 10)⟩,
    ⟨(some 12), (some (6, false)), .act, .bin .gtr (.tmp 11) (.const (.int .i64 0))⟩,
    ⟨(some 13), none, .act, .pick (.tmp 6) (.const (.bool true)) (.tmp 12)⟩])
  (.cond (.tmp 13)
   (.seq (.region [
     ⟨(some 2), none, .act, .mv (.const (.int .i64 30))⟩])
   .ret)
   .skip))
  (.seq (.region [
    ⟨(some 2), none, .act, .mv (.const (.int .i64 0))⟩])
  .ret)))
theorem res75 : ∃ c, Try.f75.body = some c ∧ resCode Try.prog 14 c = some r75 := ⟨_, rfl, by kernel_rfl⟩
theorem rr75 : resRes Try.prog Try.f75.results.toList = some [.tmp 2] := by kernel_rfl
theorem rEnd_spec (s : Option (List UInt8)) (hs : (dat s).length ≤ 140737488355328) (p : Nat) (h : AHeap) (hp : h p = some (.box (rdr s))) :
    ACalls Try.prog 75 [ptr p] h (fun x h' => x = i64 (if rdE s then 0 else 30) ∧ h' = h) := by
  have c91 := ok_spec s p h hp
  obtain ⟨c, hc1, hc2⟩ := res75
  refine ACalls.enter Try.func75 hc1 Try.ntmps75 hc2 (Nat.le_of_ble_eq_true rfl) rfl ?_
  match s, hs, hp, c91 with
  | none, hs, hp, c91 =>
    repeat' (first | refine S.nilK ?_ | (refine S.op rfl ?_; first | refine R.callQ (by decide) rfl c91 ?_ | refine R.mv rfl ?_ | refine R.fieldAddr rfl ?_ | refine R.fieldAddrR rfl ?_ | refine R.nilCheck rfl ?_ | refine R.nilCheckR rfl ?_ | refine R.loadR rfl rfl ?_ | refine R.load (by decide) rfl (by (repeat' (first | assumption | exact AHeap.set_same _ _ _ | refine AHeap.get_fresh ‹_› ?_ | refine AHeap.so ?_ ?_ | exact AHeap.n1 ‹_› | exact AHeap.n2 ‹_› | exact AHeap.ne_of ‹_› ‹_› | exact AHeap.n4 ‹_› ‹_› | exact AHeap.n5 ‹_› | exact AHeap.n6 ‹_› | exact AHeap.n7 ‹_› ‹_› | exact AHeap.n8 ‹_› ‹_›)); first | done | fail) rfl ?_ | refine R.pickT rfl rfl ?_ | refine R.pickF rfl rfl ?_ | refine R.len rfl ?_ | refine R.lenA rfl ?_ | refine R.lenStr rfl ?_ | refine R.not rfl ?_ | ((first | refine S.gtr rfl rfl ?_ ?_) <;> intro hlt <;> try (exfalso; omega))) | refine S.skip rfl ?_ | refine S.skip0 rfl ?_ | refine S.seq ?_ | refine S.region ?_ | refine S.condT rfl ?_ | refine S.condF rfl ?_ | refine RRun.skip ?_ | refine RRun.block ?_ | refine RRun.inBlock ?_ | refine RRun.exit rfl ?_)
    apply S.ret rr75
    case hx => repeat (first | exact ResAt.nil | apply ResAt.tmp rfl | apply ResAt.cellA rfl (by (repeat' (first | assumption | exact AHeap.set_same _ _ _ | refine AHeap.get_fresh ‹_› ?_ | refine AHeap.so ?_ ?_ | exact AHeap.n1 ‹_› | exact AHeap.n2 ‹_› | exact AHeap.ne_of ‹_› ‹_› | exact AHeap.n4 ‹_› ‹_› | exact AHeap.n5 ‹_› | exact AHeap.n6 ‹_› | exact AHeap.n7 ‹_› ‹_› | exact AHeap.n8 ‹_› ‹_›)); first | done | fail) (by rfl) | apply ResAt.cell1 rfl (by (repeat' (first | assumption | exact AHeap.set_same _ _ _ | refine AHeap.get_fresh ‹_› ?_ | refine AHeap.so ?_ ?_ | exact AHeap.n1 ‹_› | exact AHeap.n2 ‹_› | exact AHeap.ne_of ‹_› ‹_› | exact AHeap.n4 ‹_› ‹_› | exact AHeap.n5 ‹_› | exact AHeap.n6 ‹_› | exact AHeap.n7 ‹_› ‹_› | exact AHeap.n8 ‹_› ‹_›)); first | done | fail) (by rfl))
    exact ⟨rfl, rfl⟩
  | some [], hs, hp, c91 =>
    have hz : (Go.Av.byteCells (dat (some []))).length = 0 := rfl
    repeat' (first | refine S.nilK ?_ | (refine S.op rfl ?_; first | refine R.callQ (by decide) rfl c91 ?_ | refine R.mv rfl ?_ | refine R.fieldAddr rfl ?_ | refine R.fieldAddrR rfl ?_ | refine R.nilCheck rfl ?_ | refine R.nilCheckR rfl ?_ | refine R.loadR rfl rfl ?_ | refine R.load (by decide) rfl (by (repeat' (first | assumption | exact AHeap.set_same _ _ _ | refine AHeap.get_fresh ‹_› ?_ | refine AHeap.so ?_ ?_ | exact AHeap.n1 ‹_› | exact AHeap.n2 ‹_› | exact AHeap.ne_of ‹_› ‹_› | exact AHeap.n4 ‹_› ‹_› | exact AHeap.n5 ‹_› | exact AHeap.n6 ‹_› | exact AHeap.n7 ‹_› ‹_› | exact AHeap.n8 ‹_› ‹_›)); first | done | fail) rfl ?_ | refine R.pickT rfl rfl ?_ | refine R.pickF rfl rfl ?_ | refine R.len rfl ?_ | refine R.lenA rfl ?_ | refine R.lenStr rfl ?_ | refine R.not rfl ?_ | ((first | refine S.gtr rfl rfl ?_ ?_) <;> intro hlt <;> try (exfalso; omega))) | refine S.skip rfl ?_ | refine S.skip0 rfl ?_ | refine S.seq ?_ | refine S.region ?_ | refine S.condT rfl ?_ | refine S.condF rfl ?_ | refine RRun.skip ?_ | refine RRun.block ?_ | refine RRun.inBlock ?_ | refine RRun.exit rfl ?_)
    apply S.ret rr75
    case hx => repeat (first | exact ResAt.nil | apply ResAt.tmp rfl | apply ResAt.cellA rfl (by (repeat' (first | assumption | exact AHeap.set_same _ _ _ | refine AHeap.get_fresh ‹_› ?_ | refine AHeap.so ?_ ?_ | exact AHeap.n1 ‹_› | exact AHeap.n2 ‹_› | exact AHeap.ne_of ‹_› ‹_› | exact AHeap.n4 ‹_› ‹_› | exact AHeap.n5 ‹_› | exact AHeap.n6 ‹_› | exact AHeap.n7 ‹_› ‹_› | exact AHeap.n8 ‹_› ‹_›)); first | done | fail) (by rfl) | apply ResAt.cell1 rfl (by (repeat' (first | assumption | exact AHeap.set_same _ _ _ | refine AHeap.get_fresh ‹_› ?_ | refine AHeap.so ?_ ?_ | exact AHeap.n1 ‹_› | exact AHeap.n2 ‹_› | exact AHeap.ne_of ‹_› ‹_› | exact AHeap.n4 ‹_› ‹_› | exact AHeap.n5 ‹_› | exact AHeap.n6 ‹_› | exact AHeap.n7 ‹_› ‹_› | exact AHeap.n8 ‹_› ‹_›)); first | done | fail) (by rfl))
    exact ⟨rfl, rfl⟩
  | some (x :: r), hs, hp, c91 =>
    have hz : 0 < (Go.Av.byteCells (dat (some (x :: r)))).length := by rw [len_bytes]; simp [dat]
    repeat' (first | refine S.nilK ?_ | (refine S.op rfl ?_; first | refine R.callQ (by decide) rfl c91 ?_ | refine R.mv rfl ?_ | refine R.fieldAddr rfl ?_ | refine R.fieldAddrR rfl ?_ | refine R.nilCheck rfl ?_ | refine R.nilCheckR rfl ?_ | refine R.loadR rfl rfl ?_ | refine R.load (by decide) rfl (by (repeat' (first | assumption | exact AHeap.set_same _ _ _ | refine AHeap.get_fresh ‹_› ?_ | refine AHeap.so ?_ ?_ | exact AHeap.n1 ‹_› | exact AHeap.n2 ‹_› | exact AHeap.ne_of ‹_› ‹_› | exact AHeap.n4 ‹_› ‹_› | exact AHeap.n5 ‹_› | exact AHeap.n6 ‹_› | exact AHeap.n7 ‹_› ‹_› | exact AHeap.n8 ‹_› ‹_›)); first | done | fail) rfl ?_ | refine R.pickT rfl rfl ?_ | refine R.pickF rfl rfl ?_ | refine R.len rfl ?_ | refine R.lenA rfl ?_ | refine R.lenStr rfl ?_ | refine R.not rfl ?_ | ((first | refine S.gtr rfl rfl ?_ ?_) <;> intro hlt <;> try (exfalso; omega))) | refine S.skip rfl ?_ | refine S.skip0 rfl ?_ | refine S.seq ?_ | refine S.region ?_ | refine S.condT rfl ?_ | refine S.condF rfl ?_ | refine RRun.skip ?_ | refine RRun.block ?_ | refine RRun.inBlock ?_ | refine RRun.exit rfl ?_)
    apply S.ret rr75
    case hx => repeat (first | exact ResAt.nil | apply ResAt.tmp rfl | apply ResAt.cellA rfl (by (repeat' (first | assumption | exact AHeap.set_same _ _ _ | refine AHeap.get_fresh ‹_› ?_ | refine AHeap.so ?_ ?_ | exact AHeap.n1 ‹_› | exact AHeap.n2 ‹_› | exact AHeap.ne_of ‹_› ‹_› | exact AHeap.n4 ‹_› ‹_› | exact AHeap.n5 ‹_› | exact AHeap.n6 ‹_› | exact AHeap.n7 ‹_› ‹_› | exact AHeap.n8 ‹_› ‹_›)); first | done | fail) (by rfl) | apply ResAt.cell1 rfl (by (repeat' (first | assumption | exact AHeap.set_same _ _ _ | refine AHeap.get_fresh ‹_› ?_ | refine AHeap.so ?_ ?_ | exact AHeap.n1 ‹_› | exact AHeap.n2 ‹_› | exact AHeap.ne_of ‹_› ‹_› | exact AHeap.n4 ‹_› ‹_› | exact AHeap.n5 ‹_› | exact AHeap.n6 ‹_› | exact AHeap.n7 ‹_› ‹_› | exact AHeap.n8 ‹_› ‹_›)); first | done | fail) (by rfl))
    exact ⟨rfl, rfl⟩

end Go.Proofs.Ytnmgamcmjjngcaa
