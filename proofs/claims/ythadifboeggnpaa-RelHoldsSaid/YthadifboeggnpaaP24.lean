/-
  What is kept by a filter are just the rows that hold, in order, and a join with the one empty row is the rows: for every input.
-/
import Derived.Test.YthadifboeggnpaaP23
set_option linter.unusedVariables false
set_option linter.unusedSimpArgs false
namespace Go.Proofs.Ythadifboeggnpaa
open Go.Av
theorem filt_mem {g : Row → Bool × Int} : ∀ (l acc : List Row) (r : Row), r ∈ (filt g l acc).1 → r ∈ acc ∨ r ∈ l
  | [], acc, r, h => .inl h
  | x :: l, acc, r, h => by
    rw [filt] at h
    split at h
    · rcases filt_mem l _ r h with h | h
      · split at h
        · rcases List.mem_append.1 h with h | h
          · exact .inl h
          · rw [List.mem_singleton] at h; subst h; exact .inr (List.mem_cons_self ..)
        · exact .inl h
      · exact .inr (List.mem_cons_of_mem _ h)
    · simp at h
theorem filt_len {g : Row → Bool × Int} : ∀ (l acc : List Row), (filt g l acc).1.length ≤ acc.length + l.length
  | [], acc => by simp [filt]
  | x :: l, acc => by
    rw [filt]
    split
    · have := filt_len (g := g) l (if (g x).1 = true then acc ++ [x] else acc)
      split at this <;> simp_all <;> omega
    · simp
theorem filt_all : ∀ (l acc : List Row), filt (fun _ => (true, 0)) l acc = (acc ++ l, 0)
  | [], acc => by simp [filt]
  | x :: l, acc => by rw [filt, if_pos rfl, if_pos rfl, filt_all l]; simp
def r4 : RCode :=
  (.seq (.region [
    ⟨(some 4), none, .act, .mv (.const (.bool false))⟩])
  (.seq (.seq (.region [
    ⟨(some 11), none, .act, .call 7 []⟩,
    ⟨(some 12), none, .act, .un .not (.tmp 11)⟩])
  (.cond (.tmp 12)
   (.seq (.region [
     ⟨(some 4), none, .act, .mv (.const (.bool false))⟩])
   .ret)
   .skip))
  (.seq (.seq (.region [
    ⟨(some 13), none, .act, .mv (.tmp 0)⟩,
    ⟨(some 14), none, .act, .call 8 [(.tmp 13)]⟩,
    ⟨(some 15), none, .act, .un .not (.tmp 14)⟩,
    ⟨(some 16), none, .act, .mv (.tmp 15)⟩,
    ⟨(some 17), (some (16, false)), .act, .mv (.tmp 1)⟩,
    ⟨(some 18), (some (16, false)), .act, .call 9 [(.tmp 17)]⟩,
    ⟨(some 19), (some (16, false)), .act, .un .not (.tmp 18)⟩,
    ⟨(some 20), none, .act, .pick (.tmp 16) (.const (.bool true)) (.tmp 19)⟩])
  (.cond (.tmp 20)
   (.seq (.region [
     ⟨(some 4), none, .act, .mv (.const (.bool true))⟩])
   .ret)
   .skip))
  (.seq (.region [
    ⟨(some 22), none, .act, .mv (.tmp 0)⟩,
    ⟨(some 23), none, .act, .mv (.tmp 1)⟩,
    ⟨(some 24), none, .act, .call 12 [(.tmp 22), (.tmp 23)]⟩,
    ⟨(some 21), none, .act, .mv (.tmp 24)⟩,
    ⟨(some 25), none, .act, .extract (.tmp 21) 0⟩,
    ⟨(some 26), none, .act, .extract (.tmp 21) 1⟩,
    ⟨(some 5), none, .act, .mv (.tmp 25)⟩,
    ⟨(some 6), none, .act, .mv (.tmp 26)⟩])
  (.seq (.region [
    ⟨(some 28), none, .act, .mv (.tmp 0)⟩,
    ⟨(some 29), none, .act, .buildSl 1 [(.slice none 0 0)] 1 [(0, (.const (.slice none 0 0)))]⟩,
    ⟨(some 30), none, .act, .mv (.tmp 1)⟩,
    ⟨(some 31), none, .act, .call 13 [(.tmp 28), (.tmp 29), (.tmp 30)]⟩,
    ⟨(some 27), none, .act, .mv (.tmp 31)⟩,
    ⟨(some 32), none, .act, .extract (.tmp 27) 0⟩,
    ⟨(some 33), none, .act, .extract (.tmp 27) 1⟩,
    ⟨(some 7), none, .act, .mv (.tmp 32)⟩,
    ⟨(some 8), none, .act, .mv (.tmp 33)⟩])
  (.seq (.seq (.region [
    ⟨(some 34), none, .act, .mv (.tmp 6)⟩,
    ⟨(some 35), none, .act, .mv (.tmp 8)⟩,
    ⟨(some 36), none, .act, .eq true .int (.tmp 34) (.tmp 35)⟩,
    ⟨(some 37), none, .act, .mv (.tmp 36)⟩,
    ⟨(some 38), (some (37, false)), .act, .mv (.tmp 6)⟩,
    ⟨(some 39), (some (37, false)), .act, .eq false .int (.tmp 38) (.const (.int .i64 0))⟩,
    ⟨(some 40), (some (37, false)), .act, .mv (.tmp 39)⟩,
    ⟨(some 41), (some (40, true)), .act, .mv (.tmp 5)⟩,
    ⟨(some 42), (some (40, true)), .act, .mv (.tmp 7)⟩,
    ⟨(some 43), (some (40, true)), .act, .call 14 [(.tmp 41), (.tmp 42)]⟩,
    ⟨(some 44), (some (40, true)), .act, .un .not (.tmp 43)⟩,
    ⟨(some 45), (some (37, false)), .act, .pick (.tmp 40) (.tmp 44) (.const (.bool false))⟩,
    ⟨(some 46), none, .act, .pick (.tmp 37) (.const (.bool true)) (.tmp 45)⟩])
  (.cond (.tmp 46)
   (.seq (.region [
     ⟨(some 4), none, .act, .mv (.const (.bool false))⟩])
   .ret)
   .skip))
  (.seq (.region [
    ⟨(some 48), none, .act, .mv (.tmp 0)⟩,
    ⟨(some 49), none, .act, .call 12 [(.tmp 48), (.const (.slice none 0 0))]⟩,
    ⟨(some 47), none, .act, .mv (.tmp 49)⟩,
    ⟨(some 50), none, .act, .extract (.tmp 47) 0⟩,
    ⟨(some 51), none, .act, .extract (.tmp 47) 1⟩,
    ⟨(some 9), none, .act, .mv (.tmp 50)⟩,
    ⟨(some 10), none, .act, .mv (.tmp 51)⟩])
  (.seq (.region [
    ⟨(some 52), none, .act, .mv (.tmp 10)⟩,
    ⟨(some 53), none, .act, .eq false .int (.tmp 52) (.const (.int .i64 0))⟩,
    ⟨(some 54), none, .act, .mv (.tmp 53)⟩,
    ⟨(some 55), (some (54, true)), .act, .mv (.tmp 9)⟩,
    ⟨(some 56), (some (54, true)), .act, .mv (.tmp 0)⟩,
    ⟨(some 57), (some (54, true)), .act, .call 14 [(.tmp 55), (.tmp 56)]⟩,
    ⟨(some 58), none, .act, .pick (.tmp 54) (.tmp 57) (.const (.bool false))⟩,
    ⟨(some 4), none, .act, .mv (.tmp 58)⟩])
  .ret))))))))
theorem res4 : ∃ c, Try.f4.body = some c ∧ resCode Try.prog 59 c = some r4 := ⟨_, rfl, by kernel_rfl⟩
theorem rr4 : resRes Try.prog Try.f4.results.toList = some [.tmp 4] := by kernel_rfl
theorem relHolds_spec (l : List Row) (wh : List Ex) (hl : l.length ≤ 9223372036854775807) (hr : ∀ r ∈ l, r.length ≤ 9223372036854775807 ∧ ∀ v ∈ r, v.ok) (hw : wh.length ≤ 9223372036854775807) (hwo : ∀ e ∈ wh, e.ok) (h : AHeap) :
    ACalls Try.prog 4 [rowsA l, exprs wh] h (fun x h' => x = bl true ∧ h' = h) := by
  have c8 := fun h => rows_spec l hl (fun r hr' => (hr r hr').1) h
  have c9 := fun h => exprs_spec wh hw hwo h
  obtain ⟨c', hc1, hc2⟩ := res4
  refine ACalls.weak (ACalls.enter Try.func4 hc1 Try.ntmps4 hc2 (Nat.le_of_ble_eq_true rfl) rfl ?_)
  cases h1 : fewRows l with
  | false =>
    rw [h1] at c8
    repeat' (first | refine S.nilK ?_ | (refine S.op rfl ?_; first | refine callS rfl rfl (awake_spec _) ?_ | refine callS rfl rfl (c8 _) ?_ | refine R.mv rfl ?_ | refine R.pickT rfl rfl ?_ | refine R.not rfl ?_) | refine S.skip rfl ?_ | refine S.seq ?_ | refine S.region ?_ | refine S.condT rfl ?_ | refine S.condF rfl ?_ | refine RRun.skip ?_)
    apply S.ret rr4
    case hx => repeat (first | exact ResAt.nil | apply ResAt.tmp rfl)
    exact ⟨_, h, .refl _, (by repeat (first | exact AHeap.le.refl _)), rfl, rfl⟩
  | true =>
  rw [h1] at c8
  cases h2 : lights wh with
  | false =>
    rw [h2] at c9
    repeat' (first | refine S.nilK ?_ | (refine S.op rfl ?_; first | refine callS rfl rfl (awake_spec _) ?_ | refine callS rfl rfl (c8 _) ?_ | refine callS rfl rfl (c9 _) ?_ | refine R.mv rfl ?_ | refine R.pickF rfl rfl ?_ | refine R.not rfl ?_) | refine S.seq ?_ | refine S.region ?_ | refine S.condT rfl ?_ | refine S.condF rfl ?_ | refine RRun.skip ?_)
    apply S.ret rr4
    case hx => repeat (first | exact ResAt.nil | apply ResAt.tmp rfl)
    exact ⟨_, h, .refl _, (by repeat (first | exact AHeap.le.refl _)), rfl, rfl⟩
  | true =>
  rw [h2] at c9
  simp only [fewRows, lights, few, Bool.and_eq_true, decide_eq_true_eq, List.all_eq_true] at h1 h2
  have c26 : ∀ r ∈ l, ∀ h, ACalls Try.prog 26 [rowA r, exprs wh] h (fun x h' => x = bpA (holdF (fun e => holdsF (evalN 8 e r)) wh) ∧ h' = h) := fun r hr' h =>
    hold_spec (fun e => holdsF (evalN 8 e r)) wh (by omega) r (fun e he h => holds_spec e r (evalN 8 e r) (fun h => eval_spec 8 e (hwo e he) (h2.1 e he) r (hr r hr').1 (hr r hr').2 h) h) h
  have c26n : ∀ r ∈ l, ∀ h, ACalls Try.prog 26 [rowA r, exprs []] h (fun x h' => x = bpA (true, 0) ∧ h' = h) := fun r hr' h =>
    hold_spec (fun _ => (true, 0)) [] (by simp) r (fun e he => by cases he) h
  have hrl : ∀ r ∈ l, r.length ≤ 1000 := fun r hr' => by have := (h1.1 r hr').2; omega
  have c12 := fun h => filter_spec (fun r => holdF (fun e => holdsF (evalN 8 e r)) wh) wh l (by omega) hrl c26 h
  have c13 : ∀ h, ACalls Try.prog 13 [rowsA l, .sl 1 [[.v (.slice none 0 0)]] .full, exprs wh] h (fun x h' => x = ansA (filt (fun r => holdF (fun e => holdsF (evalN 8 e r)) wh) l []) ∧ h' = h) := fun h =>
    ACalls.args (join_spec (fun r => holdF (fun e => holdsF (evalN 8 e r)) wh) wh l (by omega) hrl c26 h) (.cons (.refl _) (.cons (.trans (.sl (es' := [[rowA []]]) (.cons (.nilSl 3 (c := .ro) trivial) .nil) rfl (by intro e he; simp at he; subst he; rfl)) (.toRo _ _ _)) (.cons (.refl _) .nil)))
  have c12n : ∀ h, ACalls Try.prog 12 [rowsA l, .v (.slice none 0 0)] h (fun x h' => x = ansA (l, 0) ∧ h' = h) := fun h => by
    have := filter_spec (fun _ => (true, 0)) [] l (by omega) hrl c26n h
    rw [filt_all, List.nil_append] at this
    exact ACalls.args this (.cons (.refl _) (.cons (.nilSl 8 (c := .ro) trivial) .nil))
  have hm := filt_mem (g := fun r => holdF (fun e => holdsF (evalN 8 e r)) wh) l []
  have hn := filt_len (g := fun r => holdF (fun e => holdsF (evalN 8 e r)) wh) l []
  generalize filt (fun r => holdF (fun e => holdsF (evalN 8 e r)) wh) l [] = p at c12 c13 hm hn
  obtain ⟨x, e⟩ := p
  simp only [List.length_nil, Nat.zero_add] at hm hn
  have c14 := fun h => sameRows_spec x (by omega) (fun r hr' => by have := hrl r ((hm r hr').resolve_left List.not_mem_nil); omega) h
  have c14l := fun h => sameRows_spec l (by omega) (fun r hr' => by have := hrl r hr'; omega) h
  repeat' (first | refine S.nilK ?_ | (refine S.op rfl ?_; first | refine callS rfl rfl (awake_spec _) ?_ | refine callS rfl rfl (c8 _) ?_ | refine callS rfl rfl (c9 _) ?_ | refine callS rfl rfl (c12 _) ?_ | refine callS rfl rfl (c13 _) ?_ | refine callS rfl rfl (c12n _) ?_ | refine callS rfl rfl (c14 _) ?_ | refine callS rfl rfl (c14l _) ?_ | refine S.eqIntSame (a := e) rfl rfl ?_ | refine S.eqIntSame (a := 0) rfl rfl ?_ | refine R.mv rfl ?_ | refine R.pickT rfl rfl ?_ | refine R.pickF rfl rfl ?_ | refine R.not rfl ?_ | refine R.extract rfl rfl ?_ | refine R.buildSl rfl rfl rfl (by decide) ?_ | ((first | refine S.eqInt rfl rfl ?_ ?_) <;> intro hlt <;> try (exfalso; omega))) | refine S.skip rfl ?_ | refine S.seq ?_ | refine S.region ?_ | refine S.condF rfl ?_ | refine RRun.skip ?_)
  all_goals
    apply S.ret rr4
    case hx => repeat (first | exact ResAt.nil | apply ResAt.tmp rfl)
    exact ⟨_, h, .refl _, (by repeat (first | exact AHeap.le.refl _)), rfl, rfl⟩
end Go.Proofs.Ythadifboeggnpaa
