import Derived.Test.YtnmgamcmjjngcaaM8
set_option linter.unusedVariables false
set_option linter.unusedSimpArgs false
namespace Go.Proofs.Ytnmgamcmjjngcaa
open Go.Av
open Go.Sort (swp PermIn SortedIn Below SWO)

def r98l0 : RCode :=
  (.seq (.region [
    ⟨(some 8), none, .act, .bin .lss (.tmp 7) (.tmp 6)⟩])
  (.seq (.cond (.tmp 8)
   .skip
   (.exit 0))
  (.seq (.block 1
   (.seq (.region [
     ⟨(some 9), none, .act, .indexAddr 1 (.tmp 5) (.tmp 7)⟩,
     ⟨(some 10), none, .act, .load false 1 (.tmp 9)⟩,
     ⟨(some 4), none, .act, .mv (.tmp 10)⟩])
   (.seq (.region [
     ⟨(some 11), none, .act, .mv (.tmp 0)⟩,
     ⟨(some 12), none, .act, .mv (.tmp 4)⟩,
     ⟨(some 13), none, .act, .callv (.tmp 11) [(.tmp 12)]⟩,
     ⟨(some 14), none, .act, .un .not (.tmp 13)⟩])
   (.cond (.tmp 14)
    .ret
    .skip))))
  (.region [
    ⟨(some 15), none, .act, .bin .add (.tmp 7) (.const (.int .i64 1))⟩,
    ⟨(some 7), none, .act, .mv (.tmp 15)⟩]))))
/-- slices.Values[[]uint64,uint64]$1 -/
def r98 : RCode :=
  (.seq (.region [
    ⟨(some 5), none, .act, .load false 1 (.tmp 1)⟩,
    ⟨(some 6), none, .act, .len (.tmp 5)⟩,
    ⟨(some 7), none, .act, .mv (.const (.int .i64 0))⟩])
  (.block 0
   (.loop r98l0)))
theorem res98 : ∃ c, Try.f98.body = some c ∧ resCode Try.prog 16 c = some r98 := ⟨_, rfl, by kernel_rfl⟩
theorem rr98 : resRes Try.prog Try.f98.results.toList = some [] := by kernel_rfl

theorem values_loop (lst : List UInt64) (hlen : lst.length ≤ 1000000) (l q : Nat) (h0 : AHeap) (C0 : Nat → Prop) (I : Nat → (Nat → Prop) → AHeap → Prop) (hI : ∀ j, Client (I j))
    (hy : ∀ j v, lst[j]? = some v → ∀ C h, I j C h → YStep Try.prog l [enc v] C h (I (j + 1)) (fun _ _ => False)) (Q : AV → AHeap → Prop)
    (hQ : ∀ x C h, I lst.length C h → (∀ x o, h0 x = some o → ¬ C0 x → h x = some o) → (∀ x, C x → C0 x ∨ h0 x = none) → Q x h) : ∀ (m j : Nat) (C : Nat → Prop) (g : AHeap), j + m = lst.length → I j C g →
    (∀ x o, h0 x = some o → ¬ C0 x → g x = some o) → (∀ x, C x → C0 x ∨ h0 x = none) →
    RRun Try.prog Try.f98 16 [.inLoop r98l0, .inBlock 0] (Env.get [(0, yieldV l), (5, u64s lst), (6, i64 lst.length), (7, i64 j)]) g Q := by
  have hla : (lst.map fun x => [enc x]).length = lst.length := by simp
  intro m
  induction m with
  | zero =>
    intro j C g hj hIg hF hC
    refine RRun.inLoop ?_
    repeat' (first | refine S.nilK ?_ | (refine S.op rfl ?_; first | refine R.mv rfl ?_ | refine R.loadR rfl rfl ?_ | refine R.load (by decide) rfl (by (repeat' (first | assumption | exact AHeap.set_same _ _ _ | refine AHeap.get_fresh ‹_› ?_ | refine AHeap.so ?_ ?_ | exact AHeap.n1 ‹_› | exact AHeap.n2 ‹_› | exact AHeap.ne_of ‹_› ‹_› | exact AHeap.n4 ‹_› ‹_› | exact AHeap.n5 ‹_› | exact AHeap.n6 ‹_› | exact AHeap.n7 ‹_› ‹_› | exact AHeap.n8 ‹_› ‹_›)); first | done | fail) rfl ?_ | refine S.addI rfl rfl (by omega) ?_ | refine S.addU rfl rfl ?_ | refine S.addUc rfl (by decide) ?_ | refine R.len rfl ?_ | refine R.lenA rfl ?_ | refine R.lenStr rfl ?_ | refine R.not rfl ?_ | ((first | refine S.lss rfl rfl ?_ ?_) <;> intro hlt <;> try (exfalso; omega))) | refine S.skip rfl ?_ | refine S.skip0 rfl ?_ | refine S.seq ?_ | refine S.region ?_ | refine S.condT rfl ?_ | refine S.condF rfl ?_ | refine RRun.skip ?_ | refine RRun.block ?_ | refine RRun.inBlock ?_ | refine RRun.exit rfl ?_)
    apply S.done rr98
    case hx => repeat (first | exact ResAt.nil | apply ResAt.tmp rfl | apply ResAt.cellA rfl (by (repeat' (first | assumption | exact AHeap.set_same _ _ _ | refine AHeap.get_fresh ‹_› ?_ | refine AHeap.so ?_ ?_ | exact AHeap.n1 ‹_› | exact AHeap.n2 ‹_› | exact AHeap.ne_of ‹_› ‹_› | exact AHeap.n4 ‹_› ‹_› | exact AHeap.n5 ‹_› | exact AHeap.n6 ‹_› | exact AHeap.n7 ‹_› ‹_› | exact AHeap.n8 ‹_› ‹_›)); first | done | fail) (by rfl) | apply ResAt.cell1 rfl (by (repeat' (first | assumption | exact AHeap.set_same _ _ _ | refine AHeap.get_fresh ‹_› ?_ | refine AHeap.so ?_ ?_ | exact AHeap.n1 ‹_› | exact AHeap.n2 ‹_› | exact AHeap.ne_of ‹_› ‹_› | exact AHeap.n4 ‹_› ‹_› | exact AHeap.n5 ‹_› | exact AHeap.n6 ‹_› | exact AHeap.n7 ‹_› ‹_› | exact AHeap.n8 ‹_› ‹_›)); first | done | fail) (by rfl))
    exact hQ _ C g (by rw [show lst.length = j by omega]; exact hIg) hF hC
  | succ m ih =>
    intro j C g hj hIg hF hC
    have hlt : j < lst.length := by omega
    obtain ⟨v, hv⟩ : ∃ v, lst[j]? = some v := ⟨lst[j], List.getElem?_eq_getElem hlt⟩
    have hga : (lst.map fun x => [enc x])[((j : Nat) : Int).toNat]? = some [enc v] := by simp only [Int.toNat_natCast, List.getElem?_map, hv]; rfl
    refine RRun.inLoop ?_
    repeat' (first | refine S.nilK ?_ | (refine S.op rfl ?_; first | refine R.indexAddr (cc := .ro) (es := lst.map fun x => [enc x]) rfl rfl (by omega) hga ?_ | refine R.mv rfl ?_ | refine R.loadR rfl rfl ?_ | refine R.load (by decide) rfl (by (repeat' (first | assumption | exact AHeap.set_same _ _ _ | refine AHeap.get_fresh ‹_› ?_ | refine AHeap.so ?_ ?_ | exact AHeap.n1 ‹_› | exact AHeap.n2 ‹_› | exact AHeap.ne_of ‹_› ‹_› | exact AHeap.n4 ‹_› ‹_› | exact AHeap.n5 ‹_› | exact AHeap.n6 ‹_› | exact AHeap.n7 ‹_› ‹_› | exact AHeap.n8 ‹_› ‹_›)); first | done | fail) rfl ?_ | refine S.addI rfl rfl (by omega) ?_ | refine S.addU rfl rfl ?_ | refine S.addUc rfl (by decide) ?_ | refine R.len rfl ?_ | refine R.lenA rfl ?_ | refine R.lenStr rfl ?_ | refine R.not rfl ?_ | ((first | refine S.lss rfl rfl ?_ ?_) <;> intro hlt <;> try (exfalso; omega))) | refine S.skip rfl ?_ | refine S.skip0 rfl ?_ | refine S.seq ?_ | refine S.region ?_ | refine S.condT rfl ?_ | refine S.condF rfl ?_ | refine RRun.skip ?_ | refine RRun.block ?_ | refine RRun.inBlock ?_ | refine RRun.exit rfl ?_)
    refine S.op rfl (R.yield rfl rfl rfl ((hy j v hv C g hIg).mono ?_))
    rintro bb h' ⟨C', hC', hft, hbb⟩
    cases bb with
    | false => exact absurd hbb (by simp)
    | true =>
      repeat' (first | refine S.nilK ?_ | (refine S.op rfl ?_; first | refine R.mv rfl ?_ | refine R.loadR rfl rfl ?_ | refine R.load (by decide) rfl (by (repeat' (first | assumption | exact AHeap.set_same _ _ _ | refine AHeap.get_fresh ‹_› ?_ | refine AHeap.so ?_ ?_ | exact AHeap.n1 ‹_› | exact AHeap.n2 ‹_› | exact AHeap.ne_of ‹_› ‹_› | exact AHeap.n4 ‹_› ‹_› | exact AHeap.n5 ‹_› | exact AHeap.n6 ‹_› | exact AHeap.n7 ‹_› ‹_› | exact AHeap.n8 ‹_› ‹_›)); first | done | fail) rfl ?_ | refine S.addI rfl rfl (by omega) ?_ | refine S.addU rfl rfl ?_ | refine S.addUc rfl (by decide) ?_ | refine R.len rfl ?_ | refine R.lenA rfl ?_ | refine R.lenStr rfl ?_ | refine R.not rfl ?_ | ((first | refine S.lss rfl rfl ?_ ?_) <;> intro hlt <;> try (exfalso; omega))) | refine S.skip rfl ?_ | refine S.skip0 rfl ?_ | refine S.seq ?_ | refine S.region ?_ | refine S.condT rfl ?_ | refine S.condF rfl ?_ | refine RRun.skip ?_ | refine RRun.block ?_ | refine RRun.inBlock ?_ | refine RRun.exit rfl ?_)
      rw [show ((j : Int) + 1) = ((j + 1 : Nat) : Int) by omega]
      refine S.keep [0, 5, 6, 7] rfl (ih (j + 1) C' h' (by omega) hbb (fun x o e hn => hft x o (hF x o e hn) (fun hc => (hC x hc).elim hn (fun e' => by rw [e] at e'; cases e'))) (fun x hx => ?_))
      rcases hC' x hx with hc | hc
      · exact hC x hc
      · cases he : h0 x with
        | none => exact .inr rfl
        | some o =>
          by_cases h0x : C0 x
          · exact .inl h0x
          · have := hF x o he h0x; rw [hc] at this; cases this

theorem values1_spec (lst : List UInt64) (hlen : lst.length ≤ 1000000) (l q : Nat) (h0 : AHeap) (C0 : Nat → Prop) (I : Nat → (Nat → Prop) → AHeap → Prop) (hI : ∀ j, Client (I j))
    (hy : ∀ j v, lst[j]? = some v → ∀ C h, I j C h → YStep Try.prog l [enc v] C h (I (j + 1)) (fun _ _ => False)) (hI0 : I 0 C0 h0) (hq : h0 q = some (.box [u64s lst])) :
    ACalls Try.prog 98 [yieldV l, ptr q] h0 (fun _ h' => ∃ C, I lst.length C h' ∧ (∀ x o, h0 x = some o → ¬ C0 x → h' x = some o) ∧ (∀ x, C x → C0 x ∨ h0 x = none)) := by
  obtain ⟨c, hc1, hc2⟩ := res98
  refine ACalls.enter Try.func98 hc1 Try.ntmps98 hc2 (Nat.le_of_ble_eq_true rfl) rfl ?_
  have hla : (lst.map fun x => [enc x]).length = lst.length := by simp
  repeat' (first | refine S.nilK ?_ | (refine S.op rfl ?_; first | refine R.mv rfl ?_ | refine R.loadR rfl rfl ?_ | refine R.load (by decide) rfl (by (repeat' (first | assumption | exact AHeap.set_same _ _ _ | refine AHeap.get_fresh ‹_› ?_ | refine AHeap.so ?_ ?_ | exact AHeap.n1 ‹_› | exact AHeap.n2 ‹_› | exact AHeap.ne_of ‹_› ‹_› | exact AHeap.n4 ‹_› ‹_› | exact AHeap.n5 ‹_› | exact AHeap.n6 ‹_› | exact AHeap.n7 ‹_› ‹_› | exact AHeap.n8 ‹_› ‹_›)); first | done | fail) rfl ?_ | refine S.addI rfl rfl (by omega) ?_ | refine S.addU rfl rfl ?_ | refine S.addUc rfl (by decide) ?_ | refine R.len rfl ?_ | refine R.lenA rfl ?_ | refine R.lenStr rfl ?_ | refine R.not rfl ?_ | ((first | refine S.lss rfl rfl ?_ ?_) <;> intro hlt <;> try (exfalso; omega))) | refine S.skip rfl ?_ | refine S.skip0 rfl ?_ | refine S.seq ?_ | refine S.region ?_ | refine S.condT rfl ?_ | refine S.condF rfl ?_ | refine RRun.skip ?_ | refine RRun.block ?_ | refine RRun.inBlock ?_ | refine RRun.exit rfl ?_)
  rw [hla]
  exact RRun.loopIn (S.keep [0, 5, 6, 7] rfl (values_loop lst hlen l q h0 C0 I hI hy _ (fun x C h h1 h2 h3 => ⟨C, h1, h2, h3⟩) lst.length 0 C0 h0 (by omega) hI0 (fun x o e _ => e) (fun x hx => .inl hx)))

/-- slices.Values[[]uint64,uint64] -/
def r87 : RCode :=
  (.seq (.region [
    ⟨(some 1), none, .act, .box (.tmp 0)⟩,
    ⟨(some 2), none, .act, .mv (.const .nilFunc)⟩])
  (.seq (.region [
    ⟨(some 3), none, .act, .makeFunc (.func 98) [] [(.tmp 1)]⟩,
    ⟨(some 2), none, .act, .mv (.tmp 3)⟩])
  .ret))
theorem res87 : ∃ c, Try.f87.body = some c ∧ resCode Try.prog 4 c = some r87 := ⟨_, rfl, by kernel_rfl⟩
theorem rr87 : resRes Try.prog Try.f87.results.toList = some [.tmp 2] := by kernel_rfl
theorem values_fn (lst : List UInt64) (h : AHeap) : ACalls Try.prog 87 [u64s lst] h (fun x h' => ∃ q, h q = none ∧ x = .v (.func (.func 98) #[] #[.pointer (some ⟨q, 0, none⟩)]) ∧ h' = h.set q (.box [u64s lst])) := by
  obtain ⟨c, hc1, hc2⟩ := res87
  refine ACalls.enter Try.func87 hc1 Try.ntmps87 hc2 (Nat.le_of_ble_eq_true rfl) rfl ?_
  repeat' (first | refine S.nilK ?_ | (refine S.op rfl ?_; first | refine R.mv rfl ?_ | refine R.box rfl rfl rfl (fun b hb => ?_) | refine R.makeFunc rfl rfl ?_) | refine S.skip rfl ?_ | refine S.skip0 rfl ?_ | refine S.seq ?_ | refine S.region ?_ | refine S.condT rfl ?_ | refine S.condF rfl ?_ | refine RRun.skip ?_ | refine RRun.block ?_ | refine RRun.inBlock ?_ | refine RRun.exit rfl ?_)
  apply S.ret rr87
  case hx => repeat (first | exact ResAt.nil | apply ResAt.tmp rfl | apply ResAt.cellA rfl (by (repeat' (first | assumption | exact AHeap.set_same _ _ _ | refine AHeap.get_fresh ‹_› ?_ | refine AHeap.so ?_ ?_ | exact AHeap.n1 ‹_› | exact AHeap.n2 ‹_› | exact AHeap.ne_of ‹_› ‹_› | exact AHeap.n4 ‹_› ‹_› | exact AHeap.n5 ‹_› | exact AHeap.n6 ‹_› | exact AHeap.n7 ‹_› ‹_› | exact AHeap.n8 ‹_› ‹_›)); first | done | fail) (by rfl) | apply ResAt.cell1 rfl (by (repeat' (first | assumption | exact AHeap.set_same _ _ _ | refine AHeap.get_fresh ‹_› ?_ | refine AHeap.so ?_ ?_ | exact AHeap.n1 ‹_› | exact AHeap.n2 ‹_› | exact AHeap.ne_of ‹_› ‹_› | exact AHeap.n4 ‹_› ‹_› | exact AHeap.n5 ‹_› | exact AHeap.n6 ‹_› | exact AHeap.n7 ‹_› ‹_› | exact AHeap.n8 ‹_› ‹_›)); first | done | fail) (by rfl))
  exact ⟨b, hb, rfl, rfl⟩

end Go.Proofs.Ytnmgamcmjjngcaa
