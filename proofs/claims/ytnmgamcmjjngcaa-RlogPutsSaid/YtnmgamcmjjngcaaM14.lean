import Derived.Test.YtnmgamcmjjngcaaM13
set_option linter.unusedVariables false
set_option linter.unusedSimpArgs false
namespace Go.Proofs.Ytnmgamcmjjngcaa
open Go.Av

theorem WAt.start {h : AHeap} {p : Nat} (hp : h p = none) : WAt h p [] (h.set p (.box [bysC [] .full])) :=
  ⟨.full, AHeap.set_same _ _ _, .inl rfl, hp, (fun x ⟨u, s, e⟩ => by cases e), (fun ⟨u, s, e⟩ => by cases e), fun x o e => AHeap.get_fresh hp e⟩
theorem WAt.le {h₀ h : AHeap} {p : Nat} {acc : List UInt8} (hw : WAt h₀ p acc h) : h₀.le h := fun x o e => by
  obtain ⟨c, _, _, _, _, _, hb⟩ := hw
  exact ⟨o, hb x o e, .refl o⟩
theorem WAt.keepBox {h₀ h : AHeap} {p : Nat} {acc : List UInt8} (hw : WAt h₀ p acc h) {x : Nat} {o : ABlk} (hx : h₀ x = some o) : h x = some o := by
  obtain ⟨c, _, _, _, _, _, hb⟩ := hw
  exact hb x o hx

theorem wN_full {p : Nat} {h₀ h : AHeap} {acc : List UInt8} {es : List (List AV)} (l : List UInt64) (he : es = l.map fun x => [enc x]) (hl : l.length ≤ 1000) (hacc : acc.length ≤ 1000000) (hw : WAt h₀ p acc h) :
    ACalls Try.prog 78 [ptr p, .sl 1 es .full] h (fun _ h' => WAt h₀ p (acc ++ putNs l) h') := by
  subst he
  exact ACalls.args (wN_spec l hl p h₀ h acc hacc hw) (.cons (.refl _) (.cons (.toRo 1 (l.map fun x => [enc x]) .full) .nil))

theorem ACalls.subH {P : Program} {f : FuncId} {args : List AV} {h h' : AHeap} {K : AV → AHeap → Prop} (hle : h'.le h) (hc : ACalls P f args h' K) : ACalls P f args h K := fun vs w h1 h2 => by
  obtain ⟨r1, r2⟩ := h2.sub hle
  exact (hc vs w (h1.mono r2.stab) r1).mono fun e w' ⟨u, x, h'', e1, k, e3, e4, e5⟩ => ⟨u, x, h'', e1, k, e3, e4, r2.trans e5⟩

theorem nil_le (h : AHeap) (p : Nat) : (h.set p (.box [bysC [] .full])).le (h.set p (.box [.v (.slice none 0 0)])) :=
  box_le (.box (.cons (.nilSl 1 (c := .full) trivial) .nil))

def putText (b : List UInt8) : List UInt8 := putN b.length ++ b

/-- (*plenum/row.Writer).I -/
def r81 : RCode :=
  (.region [
    ⟨(some 4), none, .act, .mv (.tmp 0)⟩,
    ⟨(some 5), none, .act, .mv (.tmp 1)⟩,
    ⟨(some 6), none, .act, .call 95 [(.tmp 5)]⟩,
    ⟨(some 7), none, .act, .buildSl 1 [(.int .u64 0)] 1 [(0, (.tmp 6))]⟩,
    ⟨(some 8), none, .act, .call 78 [(.tmp 4), (.tmp 7)]⟩])
theorem res81 : ∃ c, Try.f81.body = some c ∧ resCode Try.prog 9 c = some r81 := ⟨_, rfl, by kernel_rfl⟩
theorem rr81 : resRes Try.prog Try.f81.results.toList = some [] := by kernel_rfl
theorem wI_spec (n : Int) (hf : -9223372036854775808 ≤ n ∧ n ≤ 9223372036854775807) (p : Nat) (h₀ h : AHeap) (acc : List UInt8) (hacc : acc.length ≤ 1000000) (hw : WAt h₀ p acc h) :
    ACalls Try.prog 81 [ptr p, i64 n] h (fun _ h' => WAt h₀ p (acc ++ putNs [UInt64.ofNat (zig n)]) h') := by
  obtain ⟨c, hc1, hc2⟩ := res81
  refine ACalls.enter Try.func81 hc1 Try.ntmps81 hc2 (Nat.le_of_ble_eq_true rfl) rfl ?_
  repeat' (first | refine S.nilK ?_ | (refine S.op rfl ?_; first | refine callS rfl rfl (zig_spec n hf _) ?_ | refine R.mv rfl ?_ | refine R.buildSl rfl rfl rfl (by decide) ?_) | refine S.skip rfl ?_ | refine S.skip0 rfl ?_ | refine S.seq ?_ | refine S.region ?_ | refine S.condT rfl ?_ | refine S.condF rfl ?_ | refine RRun.skip ?_ | refine RRun.block ?_ | refine RRun.inBlock ?_ | refine RRun.exit rfl ?_)
  refine S.op rfl (R.call rfl rfl ((wN_full [UInt64.ofNat (zig n)] rfl (by simp) hacc hw).mono ?_))
  intro x h' hw'
  repeat' (first | refine S.nilK ?_ | (refine S.op rfl ?_; first | refine R.mv rfl ?_ | refine R.buildSl rfl rfl rfl (by decide) ?_) | refine S.skip rfl ?_ | refine S.skip0 rfl ?_ | refine S.seq ?_ | refine S.region ?_ | refine S.condT rfl ?_ | refine S.condF rfl ?_ | refine RRun.skip ?_ | refine RRun.block ?_ | refine RRun.inBlock ?_ | refine RRun.exit rfl ?_)
  apply S.done rr81
  case hx => repeat (first | exact ResAt.nil | apply ResAt.tmp rfl | apply ResAt.cellA rfl (by (repeat' (first | assumption | exact AHeap.set_same _ _ _ | refine AHeap.get_fresh ‹_› ?_ | refine AHeap.so ?_ ?_ | exact AHeap.n1 ‹_› | exact AHeap.n2 ‹_› | exact AHeap.ne_of ‹_› ‹_› | exact AHeap.n4 ‹_› ‹_› | exact AHeap.n5 ‹_› | exact AHeap.n6 ‹_› | exact AHeap.n7 ‹_› ‹_› | exact AHeap.n8 ‹_› ‹_›)); first | done | fail) (by rfl) | apply ResAt.cell1 rfl (by (repeat' (first | assumption | exact AHeap.set_same _ _ _ | refine AHeap.get_fresh ‹_› ?_ | refine AHeap.so ?_ ?_ | exact AHeap.n1 ‹_› | exact AHeap.n2 ‹_› | exact AHeap.ne_of ‹_› ‹_› | exact AHeap.n4 ‹_› ‹_› | exact AHeap.n5 ‹_› | exact AHeap.n6 ‹_› | exact AHeap.n7 ‹_› ‹_› | exact AHeap.n8 ‹_› ‹_›)); first | done | fail) (by rfl))
  exact hw'

/-- (*plenum/row.Writer).Text -/
def r82 : RCode :=
  (.seq (.region [
    ⟨(some 4), none, .act, .mv (.tmp 0)⟩,
    ⟨(some 5), none, .act, .eq true .ptr (.tmp 4) (.const (.pointer none))⟩])
  (.cond (.tmp 5)
   (.seq (.region [
     ⟨(some 6), none, .act, .mv (.tmp 0)⟩,
     ⟨(some 7), none, .act, .mv (.tmp 1)⟩,
     ⟨(some 8), none, .act, .len (.tmp 7)⟩,
     ⟨(some 9), none, .act, .convInt .u64 (.tmp 8)⟩,
     ⟨(some 10), none, .act, .buildSl 1 [(.int .u64 0)] 1 [(0, (.tmp 9))]⟩,
     ⟨(some 11), none, .act, .call 78 [(.tmp 6), (.tmp 10)]⟩])
   (.region [
     ⟨(some 12), none, .act, .mv (.tmp 0)⟩,
     ⟨(some 13), none, .act, .mv (.tmp 0)⟩,
     ⟨(some 14), none, .act, .nilCheck (.tmp 13)⟩,
     ⟨(some 15), none, .act, .fieldAddr 0 (.tmp 14)⟩,
     ⟨(some 16), none, .act, .load false 1 (.tmp 15)⟩,
     ⟨(some 17), none, .act, .mv (.tmp 1)⟩,
     ⟨(some 18), none, .act, .append 1 1 [(.int .u8 0)] (.tmp 16) (.tmp 17)⟩,
     ⟨(some 19), none, .act, .nilCheck (.tmp 12)⟩,
     ⟨(some 20), none, .act, .fieldAddr 0 (.tmp 19)⟩,
     ⟨none, none, .act, .store 1 (.tmp 20) (.tmp 18)⟩]))
   .skip))
theorem res82 : ∃ c, Try.f82.body = some c ∧ resCode Try.prog 21 c = some r82 := ⟨_, rfl, by kernel_rfl⟩
theorem rr82 : resRes Try.prog Try.f82.results.toList = some [] := by kernel_rfl
theorem wText_spec (b : List UInt8) (hb : b.length ≤ 100000000) (p : Nat) (h₀ h : AHeap) (acc : List UInt8) (hacc : acc.length ≤ 1000000) (hw : WAt h₀ p acc h) :
    ACalls Try.prog 82 [ptr p, bysC b .ro] h (fun _ h' => WAt h₀ p (acc ++ putText b) h') := by
  obtain ⟨c, hc1, hc2⟩ := res82
  refine ACalls.enter Try.func82 hc1 Try.ntmps82 hc2 (Nat.le_of_ble_eq_true rfl) rfl ?_
  have hlb : (Go.Av.byteCells b).length = b.length := by simp [Go.Av.byteCells]
  have hu : (UInt64.ofNat b.length).toNat = b.length := by simp; omega
  have hpl := putN_len (n := b.length) (by omega)
  repeat' (first | refine S.nilK ?_ | (refine S.op rfl ?_; first | refine S.convU (by rw [hlb]; omega) rfl ?_ | refine R.mv rfl ?_ | refine R.fieldAddr rfl ?_ | refine R.fieldAddrR rfl ?_ | refine R.nilCheck rfl ?_ | refine R.nilCheckR rfl ?_ | refine R.loadR rfl rfl ?_ | refine R.load (by decide) rfl (by (repeat' (first | assumption | exact AHeap.set_same _ _ _ | refine AHeap.get_fresh ‹_› ?_ | refine AHeap.so ?_ ?_ | exact AHeap.n1 ‹_› | exact AHeap.n2 ‹_› | exact AHeap.ne_of ‹_› ‹_› | exact AHeap.n4 ‹_› ‹_› | exact AHeap.n5 ‹_› | exact AHeap.n6 ‹_› | exact AHeap.n7 ‹_› ‹_› | exact AHeap.n8 ‹_› ‹_›)); first | done | fail) rfl ?_ | refine R.len rfl ?_ | refine R.lenA rfl ?_ | refine R.lenStr rfl ?_ | refine S.convIU rfl (by omega) ?_ | refine S.convUI rfl (by omega) ?_ | refine R.convInt rfl ?_ | refine R.eqPtrNil rfl rfl ?_ | refine R.buildSl rfl rfl rfl (by decide) ?_ | ((first | refine S.eqInt rfl rfl ?_ ?_) <;> intro hlt <;> try (exfalso; omega))) | (refine S.op0 rfl ?_; first | refine S.storeS rfl rfl rfl (by rfl) rfl (by first | decide | exact Nat.le_refl _ | exact Nat.le_of_ble_eq_true rfl) ?_ | refine S.store rfl rfl (by (repeat' (first | assumption | exact AHeap.set_same _ _ _ | refine AHeap.get_fresh ‹_› ?_ | refine AHeap.so ?_ ?_ | exact AHeap.n1 ‹_› | exact AHeap.n2 ‹_› | exact AHeap.ne_of ‹_› ‹_› | exact AHeap.n4 ‹_› ‹_› | exact AHeap.n5 ‹_› | exact AHeap.n6 ‹_› | exact AHeap.n7 ‹_› ‹_› | exact AHeap.n8 ‹_› ‹_›)); first | done | fail) rfl rfl rfl (by rfl) rfl ?_) | refine S.skip rfl ?_ | refine S.skip0 rfl ?_ | refine S.seq ?_ | refine S.region ?_ | refine S.condT rfl ?_ | refine S.condF rfl ?_ | refine RRun.skip ?_ | refine RRun.block ?_ | refine RRun.inBlock ?_ | refine RRun.exit rfl ?_)
  refine S.op rfl (R.call rfl rfl ((wN_full [UInt64.ofNat b.length] (by rw [hlb]; simp only [List.map_cons, List.map_nil, enc, Go.Av.u64, hu]; rfl) (by simp) hacc hw).mono ?_))
  intro x h' hw'
  have hpn : putNs [UInt64.ofNat b.length] = putN b.length := by
    simp only [putNs, List.flatMap_cons, List.flatMap_nil, List.append_nil, hu]
  rw [hpn] at hw'
  obtain ⟨c0, hp, ho, h0p, h0t, hpt, hb0⟩ := hw'
  repeat' (first | refine S.nilK ?_ | (refine S.op rfl ?_; first | refine R.mv rfl ?_ | refine R.fieldAddr rfl ?_ | refine R.fieldAddrR rfl ?_ | refine R.nilCheck rfl ?_ | refine R.nilCheckR rfl ?_ | refine R.loadR rfl rfl ?_ | refine R.load (by decide) rfl (by (repeat' (first | assumption | exact AHeap.set_same _ _ _ | refine AHeap.get_fresh ‹_› ?_ | refine AHeap.so ?_ ?_ | exact AHeap.n1 ‹_› | exact AHeap.n2 ‹_› | exact AHeap.ne_of ‹_› ‹_› | exact AHeap.n4 ‹_› ‹_› | exact AHeap.n5 ‹_› | exact AHeap.n6 ‹_› | exact AHeap.n7 ‹_› ‹_› | exact AHeap.n8 ‹_› ‹_›)); first | done | fail) rfl ?_ | refine R.len rfl ?_ | refine R.lenA rfl ?_ | refine R.lenStr rfl ?_ | refine S.convIU rfl (by omega) ?_ | refine S.convUI rfl (by omega) ?_ | refine R.convInt rfl ?_ | refine R.eqPtrNil rfl rfl ?_ | refine R.buildSl rfl rfl rfl (by decide) ?_ | ((first | refine S.eqInt rfl rfl ?_ ?_) <;> intro hlt <;> try (exfalso; omega))) | (refine S.op0 rfl ?_; first | refine S.storeS rfl rfl rfl (by rfl) rfl (by first | decide | exact Nat.le_refl _ | exact Nat.le_of_ble_eq_true rfl) ?_ | refine S.store rfl rfl (by (repeat' (first | assumption | exact AHeap.set_same _ _ _ | refine AHeap.get_fresh ‹_› ?_ | refine AHeap.so ?_ ?_ | exact AHeap.n1 ‹_› | exact AHeap.n2 ‹_› | exact AHeap.ne_of ‹_› ‹_› | exact AHeap.n4 ‹_› ‹_› | exact AHeap.n5 ‹_› | exact AHeap.n6 ‹_› | exact AHeap.n7 ‹_› ‹_› | exact AHeap.n8 ‹_› ‹_›)); first | done | fail) rfl rfl rfl (by rfl) rfl ?_) | refine S.skip rfl ?_ | refine S.skip0 rfl ?_ | refine S.seq ?_ | refine S.region ?_ | refine S.condT rfl ?_ | refine S.condF rfl ?_ | refine RRun.skip ?_ | refine RRun.block ?_ | refine RRun.inBlock ?_ | refine RRun.exit rfl ?_)
  refine S.op rfl (S.wapp (ys := b) rfl hp ho h0p h0t hpt hb0 rfl rfl (.sl _ _) (by simp only [List.length_append]; omega) (fun c' h' hp' hw' => ?_))
  repeat' (first | refine S.nilK ?_ | (refine S.op rfl ?_; first | refine R.mv rfl ?_ | refine R.fieldAddr rfl ?_ | refine R.fieldAddrR rfl ?_ | refine R.nilCheck rfl ?_ | refine R.nilCheckR rfl ?_ | refine R.loadR rfl rfl ?_ | refine R.load (by decide) rfl (by (repeat' (first | assumption | exact AHeap.set_same _ _ _ | refine AHeap.get_fresh ‹_› ?_ | refine AHeap.so ?_ ?_ | exact AHeap.n1 ‹_› | exact AHeap.n2 ‹_› | exact AHeap.ne_of ‹_› ‹_› | exact AHeap.n4 ‹_› ‹_› | exact AHeap.n5 ‹_› | exact AHeap.n6 ‹_› | exact AHeap.n7 ‹_› ‹_› | exact AHeap.n8 ‹_› ‹_›)); first | done | fail) rfl ?_ | refine R.len rfl ?_ | refine R.lenA rfl ?_ | refine R.lenStr rfl ?_ | refine S.convIU rfl (by omega) ?_ | refine S.convUI rfl (by omega) ?_ | refine R.convInt rfl ?_ | refine R.eqPtrNil rfl rfl ?_ | refine R.buildSl rfl rfl rfl (by decide) ?_ | ((first | refine S.eqInt rfl rfl ?_ ?_) <;> intro hlt <;> try (exfalso; omega))) | (refine S.op0 rfl ?_; first | refine S.storeS rfl rfl rfl (by rfl) rfl (by first | decide | exact Nat.le_refl _ | exact Nat.le_of_ble_eq_true rfl) ?_ | refine S.store rfl rfl (by (repeat' (first | assumption | exact AHeap.set_same _ _ _ | refine AHeap.get_fresh ‹_› ?_ | refine AHeap.so ?_ ?_ | exact AHeap.n1 ‹_› | exact AHeap.n2 ‹_› | exact AHeap.ne_of ‹_› ‹_› | exact AHeap.n4 ‹_› ‹_› | exact AHeap.n5 ‹_› | exact AHeap.n6 ‹_› | exact AHeap.n7 ‹_› ‹_› | exact AHeap.n8 ‹_› ‹_›)); first | done | fail) rfl rfl rfl (by rfl) rfl ?_) | refine S.skip rfl ?_ | refine S.skip0 rfl ?_ | refine S.seq ?_ | refine S.region ?_ | refine S.condT rfl ?_ | refine S.condF rfl ?_ | refine RRun.skip ?_ | refine RRun.block ?_ | refine RRun.inBlock ?_ | refine RRun.exit rfl ?_)
  apply S.done rr82
  case hx => repeat (first | exact ResAt.nil | apply ResAt.tmp rfl | apply ResAt.cellA rfl (by (repeat' (first | assumption | exact AHeap.set_same _ _ _ | refine AHeap.get_fresh ‹_› ?_ | refine AHeap.so ?_ ?_ | exact AHeap.n1 ‹_› | exact AHeap.n2 ‹_› | exact AHeap.ne_of ‹_› ‹_› | exact AHeap.n4 ‹_› ‹_› | exact AHeap.n5 ‹_› | exact AHeap.n6 ‹_› | exact AHeap.n7 ‹_› ‹_› | exact AHeap.n8 ‹_› ‹_›)); first | done | fail) (by rfl) | apply ResAt.cell1 rfl (by (repeat' (first | assumption | exact AHeap.set_same _ _ _ | refine AHeap.get_fresh ‹_› ?_ | refine AHeap.so ?_ ?_ | exact AHeap.n1 ‹_› | exact AHeap.n2 ‹_› | exact AHeap.ne_of ‹_› ‹_› | exact AHeap.n4 ‹_› ‹_› | exact AHeap.n5 ‹_› | exact AHeap.n6 ‹_› | exact AHeap.n7 ‹_› ‹_› | exact AHeap.n8 ‹_› ‹_›)); first | done | fail) (by rfl))
  show WAt h₀ p (acc ++ (putN b.length ++ b)) _
  rw [← List.append_assoc]
  exact hw'

/-- plenum/rlog.PutHard -/
def r39 : RCode :=
  (.seq (.region [
    ⟨(some 1), none, .act, .box (.tmp 0)⟩,
    ⟨(some 2), none, .act, .mv (.const (.slice none 0 0))⟩])
  (.seq (.region [
    ⟨(some 4), none, .act, .build [(.slice none 0 0)] []⟩,
    ⟨(some 5), none, .act, .box (.tmp 4)⟩,
    ⟨(some 3), none, .act, .mv (.tmp 5)⟩])
  (.seq (.region [
    ⟨(some 6), none, .act, .mv (.tmp 3)⟩,
    ⟨(some 7), none, .act, .fieldAddr 0 (.tmp 1)⟩,
    ⟨(some 8), none, .act, .load false 1 (.tmp 7)⟩,
    ⟨(some 9), none, .act, .fieldAddr 1 (.tmp 1)⟩,
    ⟨(some 10), none, .act, .load false 1 (.tmp 9)⟩,
    ⟨(some 11), none, .act, .buildSl 1 [(.int .u64 0)] 3 [(0, (.const (.int .u64 1))), (1, (.tmp 8)), (2, (.tmp 10))]⟩,
    ⟨(some 12), none, .act, .call 78 [(.tmp 6), (.tmp 11)]⟩])
  (.seq (.region [
    ⟨(some 13), none, .act, .mv (.tmp 3)⟩,
    ⟨(some 14), none, .act, .call 79 [(.tmp 13)]⟩,
    ⟨(some 2), none, .act, .mv (.tmp 14)⟩])
  .ret))))
theorem res39 : ∃ c, Try.f39.body = some c ∧ resCode Try.prog 15 c = some r39 := ⟨_, rfl, by kernel_rfl⟩
theorem rr39 : resRes Try.prog Try.f39.results.toList = some [.tmp 2] := by kernel_rfl
theorem putHard_spec (t v : UInt64) (h : AHeap) : ACalls Try.prog 39 [.ag [enc t, enc v]] h (fun x h' => x = bysC (putNs [1, t, v]) .ro ∧ h' = h) := by
  obtain ⟨c, hc1, hc2⟩ := res39
  refine ACalls.weak (ACalls.enter Try.func39 hc1 Try.ntmps39 hc2 (Nat.le_of_ble_eq_true rfl) rfl ?_)
  repeat' (first | refine S.nilK ?_ | (refine S.op rfl ?_; first | refine R.mv rfl ?_ | refine R.fieldAddr rfl ?_ | refine R.fieldAddrR rfl ?_ | refine R.loadR rfl rfl ?_ | refine R.load (by decide) rfl (by (repeat' (first | assumption | exact AHeap.set_same _ _ _ | refine AHeap.get_fresh ‹_› ?_ | refine AHeap.so ?_ ?_ | exact AHeap.n1 ‹_› | exact AHeap.n2 ‹_› | exact AHeap.ne_of ‹_› ‹_› | exact AHeap.n4 ‹_› ‹_› | exact AHeap.n5 ‹_› | exact AHeap.n6 ‹_› | exact AHeap.n7 ‹_› ‹_› | exact AHeap.n8 ‹_› ‹_›)); first | done | fail) rfl ?_ | refine R.box rfl rfl rfl (fun b hb => ?_) | refine R.build rfl rfl ?_ | refine R.buildSl rfl rfl rfl (by decide) ?_) | refine S.skip rfl ?_ | refine S.skip0 rfl ?_ | refine S.seq ?_ | refine S.region ?_ | refine S.condT rfl ?_ | refine S.condF rfl ?_ | refine RRun.skip ?_ | refine RRun.block ?_ | refine RRun.inBlock ?_ | refine RRun.exit rfl ?_)
  rename_i b1 hb1
  refine S.op rfl (R.call rfl rfl ((ACalls.subH (nil_le _ _) (wN_full [1, t, v] rfl (by simp) (by simp) (WAt.start hb))).mono ?_))
  intro x h' hw'
  obtain ⟨c0, hp, _⟩ := id hw'
  have hl : ([] ++ putNs [1, t, v]).length ≤ 10000000 := by
    have h1 := putN_len (UInt64.toNat_lt 1)
    have h2 := putN_len (UInt64.toNat_lt t)
    have h3 := putN_len (UInt64.toNat_lt v)
    simp only [putNs, List.flatMap_cons, List.flatMap_nil, List.append_nil, List.nil_append, List.length_append]
    omega
  repeat' (first | refine S.nilK ?_ | (refine S.op rfl ?_; first | refine callS rfl rfl (wBytes_spec b h' _ hl c0 hp) ?_ | refine R.mv rfl ?_ | refine R.fieldAddr rfl ?_ | refine R.fieldAddrR rfl ?_ | refine R.loadR rfl rfl ?_ | refine R.load (by decide) rfl (by (repeat' (first | assumption | exact AHeap.set_same _ _ _ | refine AHeap.get_fresh ‹_› ?_ | refine AHeap.so ?_ ?_ | exact AHeap.n1 ‹_› | exact AHeap.n2 ‹_› | exact AHeap.ne_of ‹_› ‹_› | exact AHeap.n4 ‹_› ‹_› | exact AHeap.n5 ‹_› | exact AHeap.n6 ‹_› | exact AHeap.n7 ‹_› ‹_› | exact AHeap.n8 ‹_› ‹_›)); first | done | fail) rfl ?_ | refine R.box rfl rfl rfl (fun b hb => ?_) | refine R.build rfl rfl ?_ | refine R.buildSl rfl rfl rfl (by decide) ?_) | refine S.skip rfl ?_ | refine S.skip0 rfl ?_ | refine S.seq ?_ | refine S.region ?_ | refine S.condT rfl ?_ | refine S.condF rfl ?_ | refine RRun.skip ?_ | refine RRun.block ?_ | refine RRun.inBlock ?_ | refine RRun.exit rfl ?_)
  apply S.ret rr39
  case hx => repeat (first | exact ResAt.nil | apply ResAt.tmp rfl | apply ResAt.cellA rfl (by (repeat' (first | assumption | exact AHeap.set_same _ _ _ | refine AHeap.get_fresh ‹_› ?_ | refine AHeap.so ?_ ?_ | exact AHeap.n1 ‹_› | exact AHeap.n2 ‹_› | exact AHeap.ne_of ‹_› ‹_› | exact AHeap.n4 ‹_› ‹_› | exact AHeap.n5 ‹_› | exact AHeap.n6 ‹_› | exact AHeap.n7 ‹_› ‹_› | exact AHeap.n8 ‹_› ‹_›)); first | done | fail) (by rfl) | apply ResAt.cell1 rfl (by (repeat' (first | assumption | exact AHeap.set_same _ _ _ | refine AHeap.get_fresh ‹_› ?_ | refine AHeap.so ?_ ?_ | exact AHeap.n1 ‹_› | exact AHeap.n2 ‹_› | exact AHeap.ne_of ‹_› ‹_› | exact AHeap.n4 ‹_› ‹_› | exact AHeap.n5 ‹_› | exact AHeap.n6 ‹_› | exact AHeap.n7 ‹_› ‹_› | exact AHeap.n8 ‹_› ‹_›)); first | done | fail) (by rfl))
  exact ⟨_, h, .refl _, fun x o e => hw'.le x o (AHeap.get_fresh hb1 e), rfl, rfl⟩

end Go.Proofs.Ytnmgamcmjjngcaa
