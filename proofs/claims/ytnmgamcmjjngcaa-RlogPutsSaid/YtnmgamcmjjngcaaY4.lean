import Derived.Test.YtnmgamcmjjngcaaY3
set_option linter.unusedVariables false
set_option linter.unusedSimpArgs false
namespace Go.Proofs.Ytnmgamcmjjngcaa
open Go.Av

/-! ### The members that bytes are -/

def full64 : UInt64 := 18446744073709551615

def ofLoop : Nat → UInt64 → Option (List UInt8) → List UInt64 → Option (List UInt64)
  | 0, _, s, acc => if rdE s then some acc else none
  | n + 1, was, s, acc => if (rdN s full64).1 ≤ was then none else ofLoop n (rdN s full64).1 (rdN s full64).2 (acc ++ [(rdN s full64).1])
def ofM (b : List UInt8) : Option (List UInt64) := ofLoop (rdN (some b) 9).1.toNat 0 (rdN (some b) 9).2 []
def ofAns (r : Option (List UInt64)) : AV := .tu [u64s (r.getD []), i64 (if r.isSome then 0 else 30)]

theorem rdN_le (s : Option (List UInt8)) (most : UInt64) : (rdN s most).1.toNat ≤ most.toNat := by
  match s with
  | none => exact Nat.zero_le _
  | some b =>
    cases hn : numA 0 0 b with
    | none => simp only [rdN, hn]; exact Nat.zero_le _
    | some p =>
      obtain ⟨v, k⟩ := p
      have := (numA_lt b 0 0 v k hn).1
      simp only [rdN, hn]
      split
      · exact Nat.zero_le _
      · show (UInt64.ofNat v).toNat ≤ _
        rw [UInt64.toNat_ofNat_of_lt' this]; omega

theorem ofLoop_len : ∀ (n : Nat) (was : UInt64) (s : Option (List UInt8)) (acc r : List UInt64), ofLoop n was s acc = some r → r.length = acc.length + n
  | 0, was, s, acc, r, h => by
    simp only [ofLoop] at h
    split at h
    · cases h; rfl
    · cases h
  | n + 1, was, s, acc, r, h => by
    simp only [ofLoop] at h
    split at h
    · cases h
    · have := ofLoop_len n _ _ _ r h
      simp only [List.length_append, List.length_singleton] at this
      omega
theorem ofM_len (b : List UInt8) (r : List UInt64) (h : ofM b = some r) : r.length ≤ 9 := by
  have h1 := ofLoop_len _ _ _ _ r h
  have h2 := rdN_le (some b) 9
  have h3 : (9 : UInt64).toNat = 9 := rfl
  simp only [List.length_nil] at h1
  omega

def grows (l : List UInt64) (c : Cap) : AV := .sl 1 (l.map fun x => [u64 x]) c
theorem grows_add (l : List UInt64) (x : UInt64) (c : Cap) : .sl 1 ((l.map fun x => [u64 x]) ++ [[u64 x]]) c = grows (l ++ [x]) c := by simp [grows]
theorem u64_one (x : UInt64) : ∀ e ∈ [[u64 x]], ∀ a ∈ e, a.one = true := by
  intro e he a ha
  simp only [List.mem_singleton] at he
  subst he
  simp only [List.mem_singleton] at ha
  subst ha; rfl

def r37l0 : RCode :=
  (.seq (.seq (.region [
    ⟨(some 13), none, .act, .mv (.tmp 7)⟩,
    ⟨(some 14), none, .act, .bin .gtr (.tmp 13) (.const (.int .u64 0))⟩])
  (.cond (.tmp 14)
   .skip
   (.exit 0)))
  (.seq (.block 1
   (.seq (.region [
     ⟨(some 17), none, .act, .mv (.tmp 4)⟩,
     ⟨(some 18), none, .act, .call 74 [(.tmp 17), (.const (.int .u64 18446744073709551615))]⟩,
     ⟨(some 8), none, .act, .mv (.tmp 18)⟩])
   (.seq (.seq (.region [
     ⟨(some 19), none, .act, .mv (.tmp 8)⟩,
     ⟨(some 20), none, .act, .mv (.tmp 6)⟩,
     ⟨(some 21), none, .act, .bin .leq (.tmp 19) (.tmp 20)⟩])
   (.cond (.tmp 21)
    (.seq (.region [
      ⟨(some 2), none, .act, .mv (.const (.slice none 0 0))⟩,
      ⟨(some 3), none, .act, .mv (.const (.int .i64 30))⟩])
    .ret)
    .skip))
   (.seq (.region [
     ⟨(some 22), none, .act, .mv (.tmp 8)⟩,
     ⟨(some 6), none, .act, .mv (.tmp 22)⟩])
   (.region [
     ⟨(some 23), none, .act, .mv (.tmp 5)⟩,
     ⟨(some 24), none, .act, .mv (.tmp 8)⟩,
     ⟨(some 25), none, .act, .buildSl 1 [(.int .u64 0)] 1 [(0, (.tmp 24))]⟩,
     ⟨(some 26), none, .act, .append 1 8 [(.int .u64 0)] (.tmp 23) (.tmp 25)⟩,
     ⟨(some 5), none, .act, .mv (.tmp 26)⟩])))))
  (.region [
    ⟨(some 15), none, .act, .mv (.tmp 7)⟩,
    ⟨(some 16), none, .act, .bin .sub (.tmp 15) (.const (.int .u64 1))⟩,
    ⟨(some 7), none, .act, .mv (.tmp 16)⟩])))
/-- plenum/rlog.OfMembers -/
def r37 : RCode :=
  (.seq (.region [
    ⟨(some 2), none, .act, .mv (.const (.slice none 0 0))⟩,
    ⟨(some 3), none, .act, .mv (.const (.int .i64 0))⟩])
  (.seq (.region [
    ⟨(some 9), none, .act, .mv (.tmp 0)⟩,
    ⟨(some 10), none, .act, .call 73 [(.tmp 9)]⟩,
    ⟨(some 4), none, .act, .mv (.tmp 10)⟩])
  (.seq (.region [
    ⟨(some 5), none, .act, .mv (.const (.slice none 0 0))⟩])
  (.seq (.region [
    ⟨(some 6), none, .act, .mv (.const (.int .u64 0))⟩])
  (.seq (.seq (.region [
    ⟨(some 11), none, .act, .mv (.tmp 4)⟩,
    ⟨(some 12), none, .act, .call 74 [(.tmp 11), (.const (.int .u64 9))]⟩,
    ⟨(some 7), none, .act, .mv (.tmp 12)⟩])
  (.block 0
   (.loop r37l0)))
  (.seq (.seq (.region [
    ⟨(some 27), none, .act, .mv (.tmp 4)⟩,
    ⟨(some 28), none, .act, .call 75 [(.tmp 27)]⟩,
    ⟨(some 29), none, .act, .eq true .int (.tmp 28) (.const (.int .i64 0))⟩])
  (.cond (.tmp 29)
   (.seq (.region [
     ⟨(some 2), none, .act, .mv (.const (.slice none 0 0))⟩,
     ⟨(some 3), none, .act, .mv (.const (.int .i64 30))⟩])
   .ret)
   .skip))
  (.seq (.region [
    ⟨(some 30), none, .act, .mv (.tmp 5)⟩,
    ⟨(some 2), none, .act, .mv (.tmp 30)⟩,
    ⟨(some 3), none, .act, .mv (.const (.int .i64 0))⟩])
  .ret)))))))
theorem res37 : ∃ c, Try.f37.body = some c ∧ resCode Try.prog 31 c = some r37 := ⟨_, rfl, by kernel_rfl⟩
theorem rr37 : resRes Try.prog Try.f37.results.toList = some [.tmp 2, .tmp 3] := by kernel_rfl
theorem of_loop (p : Nat) (h₀ : AHeap) (h0p : h₀ p = none) (k : List RT) (R0 : Option (List UInt64))
    (hk : ∀ h c s acc, Grow h₀ h c → h p = some (.box (rdr s)) → (dat s).length ≤ 140737488355328 → R0 = (if rdE s then some acc else none) → RRun Try.prog Try.f37 31 k (Env.get [(4, ptr p), (5, grows acc c)]) h (Weak fun x h' => x = ofAns R0 ∧ h' = h₀)) (m : Nat) :
    ∀ (n was : UInt64) (s : Option (List UInt8)) (acc : List UInt64) (h : AHeap) (c : Cap), n.toNat = m → acc.length + m ≤ 9 → Grow h₀ h c → h p = some (.box (rdr s)) → (dat s).length ≤ 140737488355328 → R0 = ofLoop m was s acc →
      RRun Try.prog Try.f37 31 (.inLoop r37l0 :: .inBlock 0 :: k) (Env.get [(7, u64 n), (4, ptr p), (5, grows acc c), (6, u64 was)]) h (Weak fun x h' => x = ofAns R0 ∧ h' = h₀) := by
  induction m with
  | zero =>
    intro n was s acc h c hn hacc hg hp hs hR
    refine RRun.inLoop ?_
    repeat' (first | refine S.nilK ?_ | (refine S.op rfl ?_; first | refine R.mv rfl ?_ | refine S.subI rfl rfl (by omega) ?_ | refine S.subU rfl rfl ?_ | refine S.subUc rfl (by decide) ?_ | refine R.eqPtrNil rfl rfl ?_ | refine R.buildSl rfl rfl rfl (by decide) ?_ | ((first | refine S.gtr rfl rfl ?_ ?_ | refine S.leq rfl rfl ?_ ?_ | refine S.eqInt rfl rfl ?_ ?_) <;> intro hlt <;> try (exfalso; omega))) | refine S.skip rfl ?_ | refine S.skip0 rfl ?_ | refine S.seq ?_ | refine S.region ?_ | refine S.condT rfl ?_ | refine S.condF rfl ?_ | refine RRun.skip ?_ | refine RRun.block ?_ | refine RRun.inBlock ?_ | refine RRun.exit rfl ?_)
    exact S.keep [4, 5] rfl (hk h c s acc hg hp hs hR)
  | succ m ih =>
    intro n was s acc h c hn hacc hg hp hs hR
    have c74 := rN_spec s hs full64 p h hp
    have hs' := rdN_len s full64 _ hs
    have hn1 : (n - 1).toNat = m := by
      have h1 : (1 : UInt64) ≤ n := UInt64.le_iff_toNat_le.2 (by show 1 ≤ n.toNat; omega)
      rw [UInt64.toNat_sub_of_le _ _ h1]
      show n.toNat - 1 = m
      omega
    have hg1 := hg.setBox (rdr (rdN s full64).2) hp h0p
    have hlen : (acc.map fun x => [u64 x]).length = acc.length := by simp
    simp only [ofLoop] at hR
    have ih' := fun h c hg hp => ih (n - 1) (rdN s full64).1 (rdN s full64).2 (acc ++ [(rdN s full64).1]) h c hn1 (by simp only [List.length_append, List.length_singleton]; omega) hg hp hs'
    generalize (rdN s full64).1 = x at c74 hR ih'
    generalize (rdN s full64).2 = s' at c74 hR ih' hg1 hs'
    refine RRun.inLoop ?_
    by_cases hx : x ≤ was
    · have hx2 := UInt64.le_iff_toNat_le.1 hx
      rw [if_pos hx] at hR
      subst hR
      repeat' (first | refine S.nilK ?_ | (refine S.op rfl ?_; first | refine callS rfl rfl c74 ?_ | refine R.mv rfl ?_ | refine S.subI rfl rfl (by omega) ?_ | refine S.subU rfl rfl ?_ | refine S.subUc rfl (by decide) ?_ | refine R.eqPtrNil rfl rfl ?_ | refine R.buildSl rfl rfl rfl (by decide) ?_ | ((first | refine S.gtr rfl rfl ?_ ?_ | refine S.leq rfl rfl ?_ ?_ | refine S.eqInt rfl rfl ?_ ?_) <;> intro hlt <;> try (exfalso; omega))) | refine S.skip rfl ?_ | refine S.skip0 rfl ?_ | refine S.seq ?_ | refine S.region ?_ | refine S.condT rfl ?_ | refine S.condF rfl ?_ | refine RRun.skip ?_ | refine RRun.block ?_ | refine RRun.inBlock ?_ | refine RRun.exit rfl ?_)
      apply S.ret rr37
      case hx => repeat (first | exact ResAt.nil | apply ResAt.tmp rfl | apply ResAt.cellA rfl (by (repeat' (first | assumption | exact AHeap.set_same _ _ _ | refine AHeap.get_fresh ‹_› ?_ | refine AHeap.so ?_ ?_ | exact AHeap.n1 ‹_› | exact AHeap.n2 ‹_› | exact AHeap.ne_of ‹_› ‹_› | exact AHeap.n4 ‹_› ‹_› | exact AHeap.n5 ‹_› | exact AHeap.n6 ‹_› | exact AHeap.n7 ‹_› ‹_› | exact AHeap.n8 ‹_› ‹_›)); first | done | fail) (by rfl) | apply ResAt.cell1 rfl (by (repeat' (first | assumption | exact AHeap.set_same _ _ _ | refine AHeap.get_fresh ‹_› ?_ | refine AHeap.so ?_ ?_ | exact AHeap.n1 ‹_› | exact AHeap.n2 ‹_› | exact AHeap.ne_of ‹_› ‹_› | exact AHeap.n4 ‹_› ‹_› | exact AHeap.n5 ‹_› | exact AHeap.n6 ‹_› | exact AHeap.n7 ‹_› ‹_› | exact AHeap.n8 ‹_› ‹_›)); first | done | fail) (by rfl))
      exact ⟨_, _, .tu (.cons (.nilSl 1 (c := .ro) trivial) (.refl _)), hg1.le, rfl, rfl⟩
    · have hx2 : ¬ x.toNat ≤ was.toNat := fun e => hx (UInt64.le_iff_toNat_le.2 e)
      rw [if_neg hx] at hR
      repeat' (first | refine S.nilK ?_ | (refine S.op rfl ?_; first | refine callS rfl rfl c74 ?_ | refine R.mv rfl ?_ | refine S.subI rfl rfl (by omega) ?_ | refine S.subU rfl rfl ?_ | refine S.subUc rfl (by decide) ?_ | refine R.eqPtrNil rfl rfl ?_ | refine R.buildSl rfl rfl rfl (by decide) ?_ | ((first | refine S.gtr rfl rfl ?_ ?_ | refine S.leq rfl rfl ?_ ?_ | refine S.eqInt rfl rfl ?_ ?_) <;> intro hlt <;> try (exfalso; omega))) | refine S.skip rfl ?_ | refine S.skip0 rfl ?_ | refine S.seq ?_ | refine S.region ?_ | refine S.condT rfl ?_ | refine S.condF rfl ?_ | refine RRun.skip ?_ | refine RRun.block ?_ | refine RRun.inBlock ?_ | refine RRun.exit rfl ?_)
      refine S.op rfl (S.appendG rfl hg1 rfl (.sl _ _) rfl (.sl [[u64 x]] _) (u64_one x) ?_ ?_ (fun c' h' hg' hbox => ?_))
      · rw [hlen]; simp; omega
      · rw [hlen]; simp; omega
      have hp' := hbox p _ (AHeap.set_same _ _ _)
      rw [grows_add]
      repeat' (first | refine S.nilK ?_ | (refine S.op rfl ?_; first | refine R.mv rfl ?_ | refine S.subI rfl rfl (by omega) ?_ | refine S.subU rfl rfl ?_ | refine S.subUc rfl (by decide) ?_ | refine R.eqPtrNil rfl rfl ?_ | refine R.buildSl rfl rfl rfl (by decide) ?_ | ((first | refine S.gtr rfl rfl ?_ ?_ | refine S.leq rfl rfl ?_ ?_ | refine S.eqInt rfl rfl ?_ ?_) <;> intro hlt <;> try (exfalso; omega))) | refine S.skip rfl ?_ | refine S.skip0 rfl ?_ | refine S.seq ?_ | refine S.region ?_ | refine S.condT rfl ?_ | refine S.condF rfl ?_ | refine RRun.skip ?_ | refine RRun.block ?_ | refine RRun.inBlock ?_ | refine RRun.exit rfl ?_)
      exact S.keep [7, 4, 5, 6] rfl (ih' h' c' hg' hp' hR)

theorem of_spec (b : List UInt8) (hb : b.length ≤ 140737488355328) (h : AHeap) : ACalls Try.prog 37 [bys b] h (fun x h' => x = ofAns (ofM b) ∧ h' = h) := by
  obtain ⟨c, hc1, hc2⟩ := res37
  refine ACalls.weak (ACalls.enter Try.func37 hc1 Try.ntmps37 hc2 (Nat.le_of_ble_eq_true rfl) rfl ?_)
  repeat' (first | refine S.nilK ?_ | (refine S.op rfl ?_; first | refine R.mv rfl ?_ | refine S.subI rfl rfl (by omega) ?_ | refine S.subU rfl rfl ?_ | refine S.subUc rfl (by decide) ?_ | refine R.eqPtrNil rfl rfl ?_ | refine R.buildSl rfl rfl rfl (by decide) ?_ | ((first | refine S.gtr rfl rfl ?_ ?_ | refine S.leq rfl rfl ?_ ?_ | refine S.eqInt rfl rfl ?_ ?_) <;> intro hlt <;> try (exfalso; omega))) | refine S.skip rfl ?_ | refine S.skip0 rfl ?_ | refine S.seq ?_ | refine S.region ?_ | refine S.condT rfl ?_ | refine S.condF rfl ?_ | refine RRun.skip ?_ | refine RRun.block ?_ | refine RRun.inBlock ?_ | refine RRun.exit rfl ?_)
  refine S.op rfl (R.call rfl rfl (ACalls.mono (read_spec b hb h) ?_))
  rintro _ _ ⟨p, hp, rfl, rfl⟩
  have c74 := rN_spec (some b) hb 9 p _ (AHeap.set_same h p _)
  have hs' := rdN_len (some b) 9 _ hb
  have h9 := rdN_le (some b) 9
  have h9' : (9 : UInt64).toNat = 9 := rfl
  repeat' (first | refine S.nilK ?_ | (refine S.op rfl ?_; first | refine callS rfl rfl c74 ?_ | refine R.mv rfl ?_ | refine S.subI rfl rfl (by omega) ?_ | refine S.subU rfl rfl ?_ | refine S.subUc rfl (by decide) ?_ | refine R.eqPtrNil rfl rfl ?_ | refine R.buildSl rfl rfl rfl (by decide) ?_ | ((first | refine S.gtr rfl rfl ?_ ?_ | refine S.leq rfl rfl ?_ ?_ | refine S.eqInt rfl rfl ?_ ?_) <;> intro hlt <;> try (exfalso; omega))) | refine S.skip rfl ?_ | refine S.skip0 rfl ?_ | refine S.seq ?_ | refine S.region ?_ | refine S.condT rfl ?_ | refine S.condF rfl ?_ | refine RRun.skip ?_ | refine RRun.block ?_ | refine RRun.inBlock ?_ | refine RRun.exit rfl ?_)
  rw [AHeap.set_set]
  refine RRun.loopIn (S.keep [7, 4, 5, 6] rfl ?_)
  refine RRun.envs (l' := [(7, u64 (rdN (some b) 9).1), (4, ptr p), (5, grows [] .full), (6, u64 0)]) (.cons _ (.refl _) (.cons _ (.refl _) (.cons _ (.nilSl 1 trivial) (.cons _ (.refl _) .nil)))) ?_
  refine of_loop p h hp _ (ofM b) ?_ (rdN (some b) 9).1.toNat (rdN (some b) 9).1 0 (rdN (some b) 9).2 [] _ .full rfl (by simp only [List.length_nil]; omega) (Grow.of_le ((AHeap.le.refl h).set _ hp)) (AHeap.set_same _ _ _) hs' rfl
  intro h1 c1 s acc hg hp1 hs hR
  have c75 := rEnd_spec s hs p h1 hp1
  cases hE : rdE s with
  | true =>
    rw [hE, if_pos rfl] at c75 hR
    rw [hR]
    repeat' (first | refine S.nilK ?_ | (refine S.op rfl ?_; first | refine R.callQ (by decide) rfl c75 ?_ | refine R.mv rfl ?_ | refine S.subI rfl rfl (by omega) ?_ | refine S.subU rfl rfl ?_ | refine S.subUc rfl (by decide) ?_ | refine R.eqPtrNil rfl rfl ?_ | refine R.buildSl rfl rfl rfl (by decide) ?_ | ((first | refine S.gtr rfl rfl ?_ ?_ | refine S.leq rfl rfl ?_ ?_ | refine S.eqInt rfl rfl ?_ ?_) <;> intro hlt <;> try (exfalso; omega))) | refine S.skip rfl ?_ | refine S.skip0 rfl ?_ | refine S.seq ?_ | refine S.region ?_ | refine S.condT rfl ?_ | refine S.condF rfl ?_ | refine RRun.skip ?_ | refine RRun.block ?_ | refine RRun.inBlock ?_ | refine RRun.exit rfl ?_)
    apply S.ret rr37
    case hx => repeat (first | exact ResAt.nil | apply ResAt.tmp rfl | apply ResAt.cellA rfl (by (repeat' (first | assumption | exact AHeap.set_same _ _ _ | refine AHeap.get_fresh ‹_› ?_ | refine AHeap.so ?_ ?_ | exact AHeap.n1 ‹_› | exact AHeap.n2 ‹_› | exact AHeap.ne_of ‹_› ‹_› | exact AHeap.n4 ‹_› ‹_› | exact AHeap.n5 ‹_› | exact AHeap.n6 ‹_› | exact AHeap.n7 ‹_› ‹_› | exact AHeap.n8 ‹_› ‹_›)); first | done | fail) (by rfl) | apply ResAt.cell1 rfl (by (repeat' (first | assumption | exact AHeap.set_same _ _ _ | refine AHeap.get_fresh ‹_› ?_ | refine AHeap.so ?_ ?_ | exact AHeap.n1 ‹_› | exact AHeap.n2 ‹_› | exact AHeap.ne_of ‹_› ‹_› | exact AHeap.n4 ‹_› ‹_› | exact AHeap.n5 ‹_› | exact AHeap.n6 ‹_› | exact AHeap.n7 ‹_› ‹_› | exact AHeap.n8 ‹_› ‹_›)); first | done | fail) (by rfl))
    exact ⟨_, _, .tu (.cons (.toRo _ _ _) (.refl _)), hg.le, rfl, rfl⟩
  | false =>
    rw [hE, if_neg (by decide)] at c75 hR
    rw [hR]
    repeat' (first | refine S.nilK ?_ | (refine S.op rfl ?_; first | refine R.callQ (by decide) rfl c75 ?_ | refine R.mv rfl ?_ | refine S.subI rfl rfl (by omega) ?_ | refine S.subU rfl rfl ?_ | refine S.subUc rfl (by decide) ?_ | refine R.eqPtrNil rfl rfl ?_ | refine R.buildSl rfl rfl rfl (by decide) ?_ | ((first | refine S.gtr rfl rfl ?_ ?_ | refine S.leq rfl rfl ?_ ?_ | refine S.eqInt rfl rfl ?_ ?_) <;> intro hlt <;> try (exfalso; omega))) | refine S.skip rfl ?_ | refine S.skip0 rfl ?_ | refine S.seq ?_ | refine S.region ?_ | refine S.condT rfl ?_ | refine S.condF rfl ?_ | refine RRun.skip ?_ | refine RRun.block ?_ | refine RRun.inBlock ?_ | refine RRun.exit rfl ?_)
    apply S.ret rr37
    case hx => repeat (first | exact ResAt.nil | apply ResAt.tmp rfl | apply ResAt.cellA rfl (by (repeat' (first | assumption | exact AHeap.set_same _ _ _ | refine AHeap.get_fresh ‹_› ?_ | refine AHeap.so ?_ ?_ | exact AHeap.n1 ‹_› | exact AHeap.n2 ‹_› | exact AHeap.ne_of ‹_› ‹_› | exact AHeap.n4 ‹_› ‹_› | exact AHeap.n5 ‹_› | exact AHeap.n6 ‹_› | exact AHeap.n7 ‹_› ‹_› | exact AHeap.n8 ‹_› ‹_›)); first | done | fail) (by rfl) | apply ResAt.cell1 rfl (by (repeat' (first | assumption | exact AHeap.set_same _ _ _ | refine AHeap.get_fresh ‹_› ?_ | refine AHeap.so ?_ ?_ | exact AHeap.n1 ‹_› | exact AHeap.n2 ‹_› | exact AHeap.ne_of ‹_› ‹_› | exact AHeap.n4 ‹_› ‹_› | exact AHeap.n5 ‹_› | exact AHeap.n6 ‹_› | exact AHeap.n7 ‹_› ‹_› | exact AHeap.n8 ‹_› ‹_›)); first | done | fail) (by rfl))
    exact ⟨_, _, .tu (.cons (.nilSl 1 (c := .ro) trivial) (.refl _)), hg.le, rfl, rfl⟩

def r38l0 : RCode :=
  (.seq (.seq (.region [
    ⟨(some 15), none, .act, .mv (.tmp 8)⟩,
    ⟨(some 16), none, .act, .mv (.tmp 5)⟩,
    ⟨(some 17), none, .act, .bin .lss (.tmp 15) (.tmp 16)⟩])
  (.cond (.tmp 17)
   .skip
   (.exit 0)))
  (.seq (.block 1
   (.seq (.region [
     ⟨(some 20), none, .act, .mv (.tmp 4)⟩,
     ⟨(some 21), none, .act, .call 76 [(.tmp 20), (.const (.int .u64 18446744073709551615))]⟩,
     ⟨(some 9), none, .act, .mv (.tmp 21)⟩])
   (.seq (.seq (.region [
     ⟨(some 22), none, .act, .mv (.tmp 9)⟩,
     ⟨(some 23), none, .act, .mv (.tmp 7)⟩,
     ⟨(some 24), none, .act, .bin .leq (.tmp 22) (.tmp 23)⟩])
   (.cond (.tmp 24)
    (.seq (.region [
      ⟨(some 2), none, .act, .mv (.const (.slice none 0 0))⟩,
      ⟨(some 3), none, .act, .mv (.const (.int .i64 30))⟩])
    .ret)
    .skip))
   (.seq (.region [
     ⟨(some 25), none, .act, .mv (.tmp 6)⟩,
     ⟨(some 26), none, .act, .mv (.tmp 9)⟩,
     ⟨(some 27), none, .act, .buildSl 1 [(.int .u64 0)] 1 [(0, (.tmp 26))]⟩,
     ⟨(some 28), none, .act, .append 1 8 [(.int .u64 0)] (.tmp 25) (.tmp 27)⟩,
     ⟨(some 6), none, .act, .mv (.tmp 28)⟩])
   (.region [
     ⟨(some 29), none, .act, .mv (.tmp 9)⟩,
     ⟨(some 7), none, .act, .mv (.tmp 29)⟩])))))
  (.region [
    ⟨(some 18), none, .act, .mv (.tmp 8)⟩,
    ⟨(some 19), none, .act, .bin .add (.tmp 18) (.const (.int .u64 1))⟩,
    ⟨(some 8), none, .act, .mv (.tmp 19)⟩])))
/-- plenum/plenumref06.MembersOf -/
def r38 : RCode :=
  (.seq (.region [
    ⟨(some 2), none, .act, .mv (.const (.slice none 0 0))⟩,
    ⟨(some 3), none, .act, .mv (.const (.int .i64 0))⟩])
  (.seq (.region [
    ⟨(some 10), none, .act, .mv (.tmp 0)⟩,
    ⟨(some 11), none, .act, .build [(.slice none 0 0), (.bool false)] [(0, 1, (.tmp 10))]⟩,
    ⟨(some 12), none, .act, .box (.tmp 11)⟩,
    ⟨(some 4), none, .act, .mv (.tmp 12)⟩])
  (.seq (.region [
    ⟨(some 13), none, .act, .mv (.tmp 4)⟩,
    ⟨(some 14), none, .act, .call 76 [(.tmp 13), (.const (.int .u64 9))]⟩,
    ⟨(some 5), none, .act, .mv (.tmp 14)⟩])
  (.seq (.region [
    ⟨(some 6), none, .act, .mv (.const (.slice none 0 0))⟩])
  (.seq (.region [
    ⟨(some 7), none, .act, .mv (.const (.int .u64 0))⟩])
  (.seq (.seq (.region [
    ⟨(some 8), none, .act, .mv (.const (.int .u64 0))⟩])
  (.block 0
   (.loop r38l0)))
  (.seq (.seq (.region [
    ⟨(some 30), none, .act, .mv (.tmp 4)⟩,
    ⟨(some 31), none, .act, .call 77 [(.tmp 30)]⟩,
    ⟨(some 32), none, .act, .eq true .int (.tmp 31) (.const (.int .i64 0))⟩])
  (.cond (.tmp 32)
   (.seq (.region [
     ⟨(some 2), none, .act, .mv (.const (.slice none 0 0))⟩,
     ⟨(some 3), none, .act, .mv (.const (.int .i64 30))⟩])
   .ret)
   .skip))
  (.seq (.region [
    ⟨(some 33), none, .act, .mv (.tmp 6)⟩,
    ⟨(some 2), none, .act, .mv (.tmp 33)⟩,
    ⟨(some 3), none, .act, .mv (.const (.int .i64 0))⟩])
  .ret))))))))
theorem res38 : ∃ c, Try.f38.body = some c ∧ resCode Try.prog 34 c = some r38 := ⟨_, rfl, by kernel_rfl⟩
theorem rr38 : resRes Try.prog Try.f38.results.toList = some [.tmp 2, .tmp 3] := by kernel_rfl
theorem mof_loop (p : Nat) (h₀ : AHeap) (h0p : h₀ p = none) (k : List RT) (R0 : Option (List UInt64)) (n : UInt64)
    (hk : ∀ h c s acc, Grow h₀ h c → h p = some (.box (qdr s)) → (dat s).length ≤ 140737488355328 → R0 = (if rdE s then some acc else none) → RRun Try.prog Try.f38 34 k (Env.get [(4, ptr p), (6, grows acc c)]) h (Weak fun x h' => x = ofAns R0 ∧ h' = h₀)) (m : Nat) :
    ∀ (i was : UInt64) (s : Option (List UInt8)) (acc : List UInt64) (h : AHeap) (c : Cap), i.toNat + m = n.toNat → acc.length + m ≤ 9 → Grow h₀ h c → h p = some (.box (qdr s)) → (dat s).length ≤ 140737488355328 → R0 = ofLoop m was s acc →
      RRun Try.prog Try.f38 34 (.inLoop r38l0 :: .inBlock 0 :: k) (Env.get [(8, u64 i), (5, u64 n), (4, ptr p), (6, grows acc c), (7, u64 was)]) h (Weak fun x h' => x = ofAns R0 ∧ h' = h₀) := by
  induction m with
  | zero =>
    intro i was s acc h c hn hacc hg hp hs hR
    refine RRun.inLoop ?_
    repeat' (first | refine S.nilK ?_ | (refine S.op rfl ?_; first | refine R.mv rfl ?_ | refine S.addI rfl rfl (by omega) ?_ | refine S.addU rfl rfl ?_ | refine S.addUc rfl (by decide) ?_ | refine R.eqPtrNil rfl rfl ?_ | refine R.box rfl rfl rfl (fun b hb => ?_) | refine R.build rfl rfl ?_ | refine R.buildSl rfl rfl rfl (by decide) ?_ | ((first | refine S.lss rfl rfl ?_ ?_ | refine S.leq rfl rfl ?_ ?_ | refine S.eqInt rfl rfl ?_ ?_) <;> intro hlt <;> try (exfalso; omega))) | refine S.skip rfl ?_ | refine S.skip0 rfl ?_ | refine S.seq ?_ | refine S.region ?_ | refine S.condT rfl ?_ | refine S.condF rfl ?_ | refine RRun.skip ?_ | refine RRun.block ?_ | refine RRun.inBlock ?_ | refine RRun.exit rfl ?_)
    exact S.keep [4, 6] rfl (hk h c s acc hg hp hs hR)
  | succ m ih =>
    intro i was s acc h c hn hacc hg hp hs hR
    have c76 := qN_spec s hs full64 p h hp
    have hs' := rdN_len s full64 _ hs
    have hn1 : (i + 1).toNat + m = n.toNat := by
      have := n.toNat_lt
      rw [UInt64.toNat_add]
      show (i.toNat + 1) % 18446744073709551616 + m = n.toNat
      rw [Nat.mod_eq_of_lt (by omega)]; omega
    have hg1 := hg.setBox (qdr (rdN s full64).2) hp h0p
    have hlen : (acc.map fun x => [u64 x]).length = acc.length := by simp
    simp only [ofLoop] at hR
    have ih' := fun h c hg hp => ih (i + 1) (rdN s full64).1 (rdN s full64).2 (acc ++ [(rdN s full64).1]) h c hn1 (by simp only [List.length_append, List.length_singleton]; omega) hg hp hs'
    generalize (rdN s full64).1 = x at c76 hR ih'
    generalize (rdN s full64).2 = s' at c76 hR ih' hg1 hs'
    refine RRun.inLoop ?_
    by_cases hx : x ≤ was
    · have hx2 := UInt64.le_iff_toNat_le.1 hx
      rw [if_pos hx] at hR
      subst hR
      repeat' (first | refine S.nilK ?_ | (refine S.op rfl ?_; first | refine callS rfl rfl c76 ?_ | refine R.mv rfl ?_ | refine S.addI rfl rfl (by omega) ?_ | refine S.addU rfl rfl ?_ | refine S.addUc rfl (by decide) ?_ | refine R.eqPtrNil rfl rfl ?_ | refine R.box rfl rfl rfl (fun b hb => ?_) | refine R.build rfl rfl ?_ | refine R.buildSl rfl rfl rfl (by decide) ?_ | ((first | refine S.lss rfl rfl ?_ ?_ | refine S.leq rfl rfl ?_ ?_ | refine S.eqInt rfl rfl ?_ ?_) <;> intro hlt <;> try (exfalso; omega))) | refine S.skip rfl ?_ | refine S.skip0 rfl ?_ | refine S.seq ?_ | refine S.region ?_ | refine S.condT rfl ?_ | refine S.condF rfl ?_ | refine RRun.skip ?_ | refine RRun.block ?_ | refine RRun.inBlock ?_ | refine RRun.exit rfl ?_)
      apply S.ret rr38
      case hx => repeat (first | exact ResAt.nil | apply ResAt.tmp rfl | apply ResAt.cellA rfl (by (repeat' (first | assumption | exact AHeap.set_same _ _ _ | refine AHeap.get_fresh ‹_› ?_ | refine AHeap.so ?_ ?_ | exact AHeap.n1 ‹_› | exact AHeap.n2 ‹_› | exact AHeap.ne_of ‹_› ‹_› | exact AHeap.n4 ‹_› ‹_› | exact AHeap.n5 ‹_› | exact AHeap.n6 ‹_› | exact AHeap.n7 ‹_› ‹_› | exact AHeap.n8 ‹_› ‹_›)); first | done | fail) (by rfl) | apply ResAt.cell1 rfl (by (repeat' (first | assumption | exact AHeap.set_same _ _ _ | refine AHeap.get_fresh ‹_› ?_ | refine AHeap.so ?_ ?_ | exact AHeap.n1 ‹_› | exact AHeap.n2 ‹_› | exact AHeap.ne_of ‹_› ‹_› | exact AHeap.n4 ‹_› ‹_› | exact AHeap.n5 ‹_› | exact AHeap.n6 ‹_› | exact AHeap.n7 ‹_› ‹_› | exact AHeap.n8 ‹_› ‹_›)); first | done | fail) (by rfl))
      exact ⟨_, _, .tu (.cons (.nilSl 1 (c := .ro) trivial) (.refl _)), hg1.le, rfl, rfl⟩
    · have hx2 : ¬ x.toNat ≤ was.toNat := fun e => hx (UInt64.le_iff_toNat_le.2 e)
      rw [if_neg hx] at hR
      repeat' (first | refine S.nilK ?_ | (refine S.op rfl ?_; first | refine callS rfl rfl c76 ?_ | refine R.mv rfl ?_ | refine S.addI rfl rfl (by omega) ?_ | refine S.addU rfl rfl ?_ | refine S.addUc rfl (by decide) ?_ | refine R.eqPtrNil rfl rfl ?_ | refine R.box rfl rfl rfl (fun b hb => ?_) | refine R.build rfl rfl ?_ | refine R.buildSl rfl rfl rfl (by decide) ?_ | ((first | refine S.lss rfl rfl ?_ ?_ | refine S.leq rfl rfl ?_ ?_ | refine S.eqInt rfl rfl ?_ ?_) <;> intro hlt <;> try (exfalso; omega))) | refine S.skip rfl ?_ | refine S.skip0 rfl ?_ | refine S.seq ?_ | refine S.region ?_ | refine S.condT rfl ?_ | refine S.condF rfl ?_ | refine RRun.skip ?_ | refine RRun.block ?_ | refine RRun.inBlock ?_ | refine RRun.exit rfl ?_)
      refine S.op rfl (S.appendG rfl hg1 rfl (.sl _ _) rfl (.sl [[u64 x]] _) (u64_one x) ?_ ?_ (fun c' h' hg' hbox => ?_))
      · rw [hlen]; simp; omega
      · rw [hlen]; simp; omega
      have hp' := hbox p _ (AHeap.set_same _ _ _)
      rw [grows_add]
      repeat' (first | refine S.nilK ?_ | (refine S.op rfl ?_; first | refine R.mv rfl ?_ | refine S.addI rfl rfl (by omega) ?_ | refine S.addU rfl rfl ?_ | refine S.addUc rfl (by decide) ?_ | refine R.eqPtrNil rfl rfl ?_ | refine R.box rfl rfl rfl (fun b hb => ?_) | refine R.build rfl rfl ?_ | refine R.buildSl rfl rfl rfl (by decide) ?_ | ((first | refine S.lss rfl rfl ?_ ?_ | refine S.leq rfl rfl ?_ ?_ | refine S.eqInt rfl rfl ?_ ?_) <;> intro hlt <;> try (exfalso; omega))) | refine S.skip rfl ?_ | refine S.skip0 rfl ?_ | refine S.seq ?_ | refine S.region ?_ | refine S.condT rfl ?_ | refine S.condF rfl ?_ | refine RRun.skip ?_ | refine RRun.block ?_ | refine RRun.inBlock ?_ | refine RRun.exit rfl ?_)
      exact S.keep [8, 5, 4, 6, 7] rfl (ih' h' c' hg' hp' hR)

theorem mof_spec (bs : List UInt8) (hbs : bs.length ≤ 140737488355328) (h : AHeap) : ACalls Try.prog 38 [bys bs] h (fun x h' => x = ofAns (ofM bs) ∧ h' = h) := by
  obtain ⟨c, hc1, hc2⟩ := res38
  refine ACalls.weak (ACalls.enter Try.func38 hc1 Try.ntmps38 hc2 (Nat.le_of_ble_eq_true rfl) rfl ?_)
  have c76 := fun p h' => qN_spec (some bs) hbs 9 p h'
  have hs' := rdN_len (some bs) 9 _ hbs
  have h9 := rdN_le (some bs) 9
  have h9' : (9 : UInt64).toNat = 9 := rfl
  repeat' (first | refine S.nilK ?_ | (refine S.op rfl ?_; first | refine R.mv rfl ?_ | refine S.addI rfl rfl (by omega) ?_ | refine S.addU rfl rfl ?_ | refine S.addUc rfl (by decide) ?_ | refine R.eqPtrNil rfl rfl ?_ | refine R.box rfl rfl rfl (fun b hb => ?_) | refine R.build rfl rfl ?_ | refine R.buildSl rfl rfl rfl (by decide) ?_ | ((first | refine S.lss rfl rfl ?_ ?_ | refine S.leq rfl rfl ?_ ?_ | refine S.eqInt rfl rfl ?_ ?_) <;> intro hlt <;> try (exfalso; omega))) | refine S.skip rfl ?_ | refine S.skip0 rfl ?_ | refine S.seq ?_ | refine S.region ?_ | refine S.condT rfl ?_ | refine S.condF rfl ?_ | refine RRun.skip ?_ | refine RRun.block ?_ | refine RRun.inBlock ?_ | refine RRun.exit rfl ?_)
  revert b hb; intro p hp
  refine S.op rfl (callS rfl rfl (c76 p _ (AHeap.set_same h p _)) ?_)
  rw [AHeap.set_set]
  repeat' (first | refine S.nilK ?_ | (refine S.op rfl ?_; first | refine R.mv rfl ?_ | refine S.addI rfl rfl (by omega) ?_ | refine S.addU rfl rfl ?_ | refine S.addUc rfl (by decide) ?_ | refine R.eqPtrNil rfl rfl ?_ | refine R.box rfl rfl rfl (fun b hb => ?_) | refine R.build rfl rfl ?_ | refine R.buildSl rfl rfl rfl (by decide) ?_ | ((first | refine S.lss rfl rfl ?_ ?_ | refine S.leq rfl rfl ?_ ?_ | refine S.eqInt rfl rfl ?_ ?_) <;> intro hlt <;> try (exfalso; omega))) | refine S.skip rfl ?_ | refine S.skip0 rfl ?_ | refine S.seq ?_ | refine S.region ?_ | refine S.condT rfl ?_ | refine S.condF rfl ?_ | refine RRun.skip ?_ | refine RRun.block ?_ | refine RRun.inBlock ?_ | refine RRun.exit rfl ?_)
  refine RRun.loopIn (S.keep [8, 5, 4, 6, 7] rfl ?_)
  refine RRun.envs (l' := [(8, u64 0), (5, u64 (rdN (some bs) 9).1), (4, ptr p), (6, grows [] .full), (7, u64 0)]) (.cons _ (.refl _) (.cons _ (.refl _) (.cons _ (.refl _) (.cons _ (.nilSl 1 trivial) (.cons _ (.refl _) .nil))))) ?_
  refine mof_loop p h hp _ (ofM bs) (rdN (some bs) 9).1 ?_ (rdN (some bs) 9).1.toNat 0 0 (rdN (some bs) 9).2 [] _ .full (by show 0 + _ = _; omega) (by simp only [List.length_nil]; omega) (Grow.of_le ((AHeap.le.refl h).set _ hp)) (AHeap.set_same _ _ _) hs' rfl
  intro h1 c1 s acc hg hp1 hs hR
  have c77 := qEnd_spec s hs p h1 hp1
  cases hE : rdE s with
  | true =>
    rw [hE, if_pos rfl] at c77 hR
    rw [hR]
    repeat' (first | refine S.nilK ?_ | (refine S.op rfl ?_; first | refine R.callQ (by decide) rfl c77 ?_ | refine R.mv rfl ?_ | refine S.addI rfl rfl (by omega) ?_ | refine S.addU rfl rfl ?_ | refine S.addUc rfl (by decide) ?_ | refine R.eqPtrNil rfl rfl ?_ | refine R.box rfl rfl rfl (fun b hb => ?_) | refine R.build rfl rfl ?_ | refine R.buildSl rfl rfl rfl (by decide) ?_ | ((first | refine S.lss rfl rfl ?_ ?_ | refine S.leq rfl rfl ?_ ?_ | refine S.eqInt rfl rfl ?_ ?_) <;> intro hlt <;> try (exfalso; omega))) | refine S.skip rfl ?_ | refine S.skip0 rfl ?_ | refine S.seq ?_ | refine S.region ?_ | refine S.condT rfl ?_ | refine S.condF rfl ?_ | refine RRun.skip ?_ | refine RRun.block ?_ | refine RRun.inBlock ?_ | refine RRun.exit rfl ?_)
    apply S.ret rr38
    case hx => repeat (first | exact ResAt.nil | apply ResAt.tmp rfl | apply ResAt.cellA rfl (by (repeat' (first | assumption | exact AHeap.set_same _ _ _ | refine AHeap.get_fresh ‹_› ?_ | refine AHeap.so ?_ ?_ | exact AHeap.n1 ‹_› | exact AHeap.n2 ‹_› | exact AHeap.ne_of ‹_› ‹_› | exact AHeap.n4 ‹_› ‹_› | exact AHeap.n5 ‹_› | exact AHeap.n6 ‹_› | exact AHeap.n7 ‹_› ‹_› | exact AHeap.n8 ‹_› ‹_›)); first | done | fail) (by rfl) | apply ResAt.cell1 rfl (by (repeat' (first | assumption | exact AHeap.set_same _ _ _ | refine AHeap.get_fresh ‹_› ?_ | refine AHeap.so ?_ ?_ | exact AHeap.n1 ‹_› | exact AHeap.n2 ‹_› | exact AHeap.ne_of ‹_› ‹_› | exact AHeap.n4 ‹_› ‹_› | exact AHeap.n5 ‹_› | exact AHeap.n6 ‹_› | exact AHeap.n7 ‹_› ‹_› | exact AHeap.n8 ‹_› ‹_›)); first | done | fail) (by rfl))
    exact ⟨_, _, .tu (.cons (.toRo _ _ _) (.refl _)), hg.le, rfl, rfl⟩
  | false =>
    rw [hE, if_neg (by decide)] at c77 hR
    rw [hR]
    repeat' (first | refine S.nilK ?_ | (refine S.op rfl ?_; first | refine R.callQ (by decide) rfl c77 ?_ | refine R.mv rfl ?_ | refine S.addI rfl rfl (by omega) ?_ | refine S.addU rfl rfl ?_ | refine S.addUc rfl (by decide) ?_ | refine R.eqPtrNil rfl rfl ?_ | refine R.box rfl rfl rfl (fun b hb => ?_) | refine R.build rfl rfl ?_ | refine R.buildSl rfl rfl rfl (by decide) ?_ | ((first | refine S.lss rfl rfl ?_ ?_ | refine S.leq rfl rfl ?_ ?_ | refine S.eqInt rfl rfl ?_ ?_) <;> intro hlt <;> try (exfalso; omega))) | refine S.skip rfl ?_ | refine S.skip0 rfl ?_ | refine S.seq ?_ | refine S.region ?_ | refine S.condT rfl ?_ | refine S.condF rfl ?_ | refine RRun.skip ?_ | refine RRun.block ?_ | refine RRun.inBlock ?_ | refine RRun.exit rfl ?_)
    apply S.ret rr38
    case hx => repeat (first | exact ResAt.nil | apply ResAt.tmp rfl | apply ResAt.cellA rfl (by (repeat' (first | assumption | exact AHeap.set_same _ _ _ | refine AHeap.get_fresh ‹_› ?_ | refine AHeap.so ?_ ?_ | exact AHeap.n1 ‹_› | exact AHeap.n2 ‹_› | exact AHeap.ne_of ‹_› ‹_› | exact AHeap.n4 ‹_› ‹_› | exact AHeap.n5 ‹_› | exact AHeap.n6 ‹_› | exact AHeap.n7 ‹_› ‹_› | exact AHeap.n8 ‹_› ‹_›)); first | done | fail) (by rfl) | apply ResAt.cell1 rfl (by (repeat' (first | assumption | exact AHeap.set_same _ _ _ | refine AHeap.get_fresh ‹_› ?_ | refine AHeap.so ?_ ?_ | exact AHeap.n1 ‹_› | exact AHeap.n2 ‹_› | exact AHeap.ne_of ‹_› ‹_› | exact AHeap.n4 ‹_› ‹_› | exact AHeap.n5 ‹_› | exact AHeap.n6 ‹_› | exact AHeap.n7 ‹_› ‹_› | exact AHeap.n8 ‹_› ‹_›)); first | done | fail) (by rfl))
    exact ⟨_, _, .tu (.cons (.nilSl 1 (c := .ro) trivial) (.refl _)), hg.le, rfl, rfl⟩

end Go.Proofs.Ytnmgamcmjjngcaa
