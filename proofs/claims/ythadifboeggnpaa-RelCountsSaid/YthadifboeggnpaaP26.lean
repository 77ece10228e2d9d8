/-
  Groups have all rows among them, so their counts come to how many rows there are: for every input.
-/
import Derived.Test.YthadifboeggnpaaP25
set_option linter.unusedVariables false
set_option linter.unusedSimpArgs false
namespace Go.Proofs.Ythadifboeggnpaa
open Go.Av
def valsF (f : Ex → Val × Int) : List Ex → Row → Row × Int
  | [], acc => (acc, 0)
  | e :: l, acc => if (f e).2 = 0 then valsF f l (acc ++ [(f e).1]) else ([], (f e).2)
theorem valsF_drop {f : Ex → Val × Int} {l : List Ex} {acc : Row} {i : Nat} (hi : i < l.length) : valsF f (l.drop i) acc = if (f l[i]).2 = 0 then valsF f (l.drop (i + 1)) (acc ++ [(f l[i]).1]) else ([], (f l[i]).2) := by
  rw [List.drop_eq_getElem_cons hi, valsF]
abbrev rowP (p : Row × Int) : AV := .tu [rowA p.1, i64 p.2]
def r25l0 : RCode :=
  (.seq (.region [
    ⟨(some 14), none, .act, .bin .lss (.tmp 13) (.tmp 12)⟩])
  (.seq (.cond (.tmp 14)
   .skip
   (.exit 0))
  (.seq (.block 1
   (.seq (.region [
     ⟨(some 15), none, .act, .indexAddr 8 (.tmp 11) (.tmp 13)⟩,
     ⟨(some 16), none, .act, .load true 8 (.tmp 15)⟩,
     ⟨(some 8), none, .act, .alloc [(.int .i64 0), (.string ⟨#[]⟩), (.string ⟨#[]⟩), (.int .i64 0), (.int .i64 0), (.int .i64 0), (.string ⟨#[]⟩), (.slice none 0 0)]⟩,
     ⟨none, none, .act, .store 8 (.tmp 8) (.tmp 16)⟩])
   (.seq (.region [
     ⟨(some 18), none, .act, .load true 8 (.tmp 8)⟩,
     ⟨(some 19), none, .act, .mv (.tmp 1)⟩,
     ⟨(some 20), none, .act, .call 35 [(.tmp 18), (.tmp 19)]⟩,
     ⟨(some 17), none, .act, .mv (.tmp 20)⟩,
     ⟨(some 21), none, .act, .extract (.tmp 17) 0⟩,
     ⟨(some 22), none, .act, .extract (.tmp 17) 1⟩,
     ⟨(some 9), none, .act, .alloc [(.int .i64 0), (.int .i64 0), (.string ⟨#[]⟩)]⟩,
     ⟨none, none, .act, .store 3 (.tmp 9) (.tmp 21)⟩,
     ⟨(some 10), none, .act, .mv (.tmp 22)⟩])
   (.seq (.seq (.region [
     ⟨(some 23), none, .act, .mv (.tmp 10)⟩,
     ⟨(some 24), none, .act, .eq true .int (.tmp 23) (.const (.int .i64 0))⟩])
   (.cond (.tmp 24)
    (.seq (.region [
      ⟨(some 25), none, .act, .mv (.tmp 10)⟩,
      ⟨(some 4), none, .act, .mv (.const (.slice none 0 0))⟩,
      ⟨(some 5), none, .act, .mv (.tmp 25)⟩])
    .ret)
    .skip))
   (.region [
     ⟨(some 26), none, .act, .mv (.tmp 6)⟩,
     ⟨(some 27), none, .act, .load true 3 (.tmp 9)⟩,
     ⟨(some 28), none, .act, .buildSl 3 [(.int .i64 0), (.int .i64 0), (.string ⟨#[]⟩)] 1 [(0, (.tmp 27))]⟩,
     ⟨(some 29), none, .act, .append 3 32 [(.int .i64 0), (.int .i64 0), (.string ⟨#[]⟩)] (.tmp 26) (.tmp 28)⟩,
     ⟨(some 6), none, .act, .mv (.tmp 29)⟩])))))
  (.region [
    ⟨(some 30), none, .act, .bin .add (.tmp 13) (.const (.int .i64 1))⟩,
    ⟨(some 13), none, .act, .mv (.tmp 30)⟩]))))
def r25 : RCode :=
  (.seq (.region [
    ⟨(some 4), none, .act, .mv (.const (.slice none 0 0))⟩,
    ⟨(some 5), none, .act, .mv (.const (.int .i64 0))⟩])
  (.seq (.region [
    ⟨(some 6), none, .act, .mv (.const (.slice none 0 0))⟩])
  (.seq (.seq (.region [
    ⟨(some 11), none, .act, .mv (.tmp 0)⟩,
    ⟨(some 12), none, .act, .len (.tmp 11)⟩,
    ⟨(some 13), none, .act, .mv (.const (.int .i64 0))⟩])
  (.block 0
   (.loop r25l0)))
  (.seq (.region [
    ⟨(some 31), none, .act, .mv (.tmp 6)⟩,
    ⟨(some 4), none, .act, .mv (.tmp 31)⟩,
    ⟨(some 5), none, .act, .mv (.const (.int .i64 0))⟩])
  .ret))))
theorem res25 : ∃ c, Try.f25.body = some c ∧ resCode Try.prog 32 c = some r25 := ⟨_, rfl, by kernel_rfl⟩
theorem rr25 : resRes Try.prog Try.f25.results.toList = some [.tmp 4, .tmp 5] := by kernel_rfl
theorem values_loop (f : Ex → Val × Int) (l : List Ex) (hl : l.length ≤ 1000) (r : Row) (c35 : ∀ e ∈ l, ∀ h, ACalls Try.prog 35 [.ag e.cells, rowA r] h (fun y h' => y = resA (f e) ∧ h' = h)) (h₀ : AHeap) (k : List RT) (Q : AV → AHeap → Prop)
    (hk : ∀ out c h, Grow h₀ h c → valsF f l [] = (out, 0) → RRun Try.prog Try.f25 32 k (Env.get [(6, .sl 3 (out.map Val.cells) c)]) h Q)
    (hf : ∀ e h, h₀.le h → valsF f l [] = ([], e) → Q (.tu [.v (.slice none 0 0), i64 e]) h) : ∀ (m i : Nat) (acc : Row) (c : Cap) (h : AHeap), i + m = l.length → acc.length = i → valsF f l [] = valsF f (l.drop i) acc → Grow h₀ h c →
    RRun Try.prog Try.f25 32 (.inLoop r25l0 :: .inBlock 0 :: k) (Env.get [(1, rowA r), (6, .sl 3 (acc.map Val.cells) c), (11, exprs l), (12, i64 l.length), (13, i64 i)]) h Q := by
  intro m
  induction m with
  | zero =>
    intro i acc c h hi ha ht hg
    rw [List.drop_of_length_le (by omega)] at ht
    refine RRun.inLoop ?_
    repeat' (first | refine S.nilK ?_ | (refine S.op rfl ?_; first | ((first | refine S.lss rfl rfl ?_ ?_) <;> intro hlt <;> try (exfalso; omega))) | refine S.seq ?_ | refine S.region ?_ | refine S.condF rfl ?_ | refine RRun.exit rfl ?_)
    exact S.keep [6] rfl (hk acc c h hg ht)
  | succ m ih =>
    intro i acc c h hi ha ht hg
    have hie : i < l.length := by omega
    have h1 : (l.map Ex.cells)[((i : Nat) : Int).toNat]? = some l[i].cells := by simp [hie]
    have c := fun h => c35 l[i] (List.getElem_mem hie) h
    have hlen : (acc.map Val.cells).length = acc.length := by simp
    rw [valsF_drop hie] at ht
    generalize f l[i] = q at c ht
    generalize l[i] = e at h1 c
    obtain ⟨op, t, nm, n, ⟨vk, vn, vs⟩, args⟩ := e
    obtain ⟨⟨q1, q2, q3⟩, qe⟩ := q
    rw [cells_mk] at h1 c
    replace c : ∀ h, ACalls Try.prog 35 [.ag [i64 op, str t, str nm, i64 n, i64 vk, i64 vn, str vs, exprs args], rowA r] h (fun y h' => y = .tu [.ag [i64 q1, i64 q2, str q3], i64 qe] ∧ h' = h) := c
    simp only at ht
    refine RRun.inLoop ?_
    by_cases hq : qe = 0
    · rw [if_pos hq] at ht
      subst hq
      repeat' (first | refine S.nilK ?_ | (refine S.op rfl ?_; first | refine R.indexAddr rfl rfl (by omega) h1 ?_ | refine callS rfl rfl (c _) ?_ | refine S.eqIntSame (a := 0) rfl rfl ?_ | refine R.mv rfl ?_ | refine R.loadR rfl rfl ?_ | refine R.load (by decide) rfl (by (repeat' (first | exact AHeap.set_same _ _ _)); first | done | fail) rfl ?_ | refine R.extract rfl rfl ?_ | refine R.alloc rfl (fun b hb => ?_) | refine R.buildSl rfl rfl rfl (by decide) ?_ | ((first | refine S.lss rfl rfl ?_ ?_) <;> intro hlt <;> try (exfalso; omega))) | (refine S.op0 rfl ?_; first | refine S.storeS rfl rfl rfl (by rfl) rfl (by first | decide | exact Nat.le_refl _ | exact Nat.le_of_ble_eq_true rfl) ?_) | refine S.seq ?_ | refine S.region ?_ | refine S.condT rfl ?_ | refine S.condF rfl ?_ | refine RRun.skip ?_ | refine RRun.block ?_)
      refine S.op rfl (S.appendG (ys := [Val.cells ⟨q1, q2, q3⟩]) rfl ((hg.base _ (by assumption)).base _ (by assumption)) rfl (.sl _ _) rfl (.sl _ _) (vals_one [⟨q1, q2, q3⟩]) (by rw [hlen]; simp; omega) (by rw [hlen]; simp; omega) (fun c' h' hg' hbox => ?_))
      repeat' (first | refine S.nilK ?_ | (refine S.op rfl ?_; first | refine R.mv rfl ?_ | refine S.addI rfl rfl (by omega) ?_) | refine S.region ?_ | refine RRun.inBlock ?_)
      rw [show acc.map Val.cells ++ [Val.cells ⟨q1, q2, q3⟩] = (acc ++ [(⟨q1, q2, q3⟩ : Val)]).map Val.cells by simp, show ((i : Int) + 1) = ((i + 1 : Nat) : Int) by omega]
      exact S.keep [1, 6, 11, 12, 13] rfl (ih (i + 1) _ _ _ (by omega) (by simp; omega) ht hg')
    · rw [if_neg hq] at ht
      repeat' (first | refine S.nilK ?_ | (refine S.op rfl ?_; first | refine R.indexAddr rfl rfl (by omega) h1 ?_ | refine callS rfl rfl (c _) ?_ | refine R.mv rfl ?_ | refine R.loadR rfl rfl ?_ | refine R.load (by decide) rfl (by (repeat' (first | exact AHeap.set_same _ _ _)); first | done | fail) rfl ?_ | refine R.extract rfl rfl ?_ | refine R.alloc rfl (fun b hb => ?_) | ((first | refine S.lss rfl rfl ?_ ?_ | refine S.eqInt rfl rfl ?_ ?_) <;> intro hlt <;> try (exfalso; omega))) | (refine S.op0 rfl ?_; first | refine S.storeS rfl rfl rfl (by rfl) rfl (by first | decide | exact Nat.le_refl _ | exact Nat.le_of_ble_eq_true rfl) ?_) | refine S.seq ?_ | refine S.region ?_ | refine S.condT rfl ?_ | refine RRun.skip ?_ | refine RRun.block ?_)
      apply S.ret rr25
      case hx => repeat (first | exact ResAt.nil | apply ResAt.tmp rfl)
      exact hf _ _ (AHeap.le.trans hg.le (by repeat (first | exact AHeap.le.refl _ | refine AHeap.le.set ?_ _ (by (repeat' (first | assumption | exact AHeap.z1 ‹_›)); first | done | fail)))) ht
theorem values_spec (f : Ex → Val × Int) (l : List Ex) (hl : l.length ≤ 1000) (r : Row) (c35 : ∀ e ∈ l, ∀ h, ACalls Try.prog 35 [.ag e.cells, rowA r] h (fun y h' => y = resA (f e) ∧ h' = h)) (h : AHeap) :
    ACalls Try.prog 25 [exprs l, rowA r] h (fun x h' => x = rowP (valsF f l []) ∧ h' = h) := by
  obtain ⟨c', hc1, hc2⟩ := res25
  refine ACalls.weak (ACalls.enter Try.func25 hc1 Try.ntmps25 hc2 (Nat.le_of_ble_eq_true rfl) rfl ?_)
  have hlen : (l.map Ex.cells).length = l.length := by simp
  repeat' (first | refine S.nilK ?_ | (refine S.op rfl ?_; first | refine R.mv rfl ?_ | refine R.len rfl ?_) | refine S.seq ?_ | refine S.region ?_ | refine RRun.block ?_)
  rw [hlen]
  refine RRun.loopIn (S.keep [1, 6, 11, 12, 13] rfl (RRun.envs (.cons 1 (.refl _) (.cons 6 (.nilSl 3 (c := .full) trivial) (.cons 11 (.refl _) (.cons 12 (.refl _) (.cons 13 (.refl _) .nil))))) (values_loop f l hl r c35 h _ _ (fun out c h1 hg hd => ?_) (fun e h1 hle hd => ⟨_, h, .tu (.cons (.nilSl 3 (c := .ro) trivial) (.cons (.refl _) .nil)), hle, by rw [hd]; rfl, rfl⟩) l.length 0 [] .full h (by omega) rfl rfl (Grow.start h))))
  repeat' (first | refine S.nilK ?_ | (refine S.op rfl ?_; first | refine R.mv rfl ?_) | refine S.seq ?_ | refine S.region ?_)
  apply S.ret rr25
  case hx => repeat (first | exact ResAt.nil | apply ResAt.tmp rfl)
  exact ⟨_, h, .tu (.cons (.toRo _ _ _) (.cons (.refl _) .nil)), hg.le, by rw [hd], rfl⟩
def errF (v : Row → Row × Int) : List Row → Int
  | [] => 0
  | r :: l => if (v r).2 = 0 then errF v l else (v r).2
theorem errF_drop {v : Row → Row × Int} {l : List Row} {i : Nat} (hi : i < l.length) : errF v (l.drop i) = if (v l[i]).2 = 0 then errF v (l.drop (i + 1)) else (v l[i]).2 := by
  rw [List.drop_eq_getElem_cons hi, errF]
def r11l0 : RCode :=
  (.seq (.region [
    ⟨(some 14), none, .act, .bin .lss (.tmp 13) (.tmp 12)⟩])
  (.seq (.cond (.tmp 14)
   .skip
   (.exit 0))
  (.seq (.block 1
   (.seq (.region [
     ⟨(some 15), none, .act, .indexAddr 1 (.tmp 11) (.tmp 13)⟩,
     ⟨(some 16), none, .act, .load false 1 (.tmp 15)⟩,
     ⟨(some 8), none, .act, .mv (.tmp 16)⟩])
   (.seq (.region [
     ⟨(some 18), none, .act, .mv (.tmp 1)⟩,
     ⟨(some 19), none, .act, .mv (.tmp 8)⟩,
     ⟨(some 20), none, .act, .call 25 [(.tmp 18), (.tmp 19)]⟩,
     ⟨(some 17), none, .act, .mv (.tmp 20)⟩,
     ⟨(some 21), none, .act, .extract (.tmp 17) 0⟩,
     ⟨(some 22), none, .act, .extract (.tmp 17) 1⟩,
     ⟨(some 9), none, .act, .mv (.tmp 21)⟩,
     ⟨(some 10), none, .act, .mv (.tmp 22)⟩])
   (.seq (.seq (.region [
     ⟨(some 23), none, .act, .mv (.tmp 10)⟩,
     ⟨(some 24), none, .act, .eq true .int (.tmp 23) (.const (.int .i64 0))⟩])
   (.cond (.tmp 24)
    (.seq (.region [
      ⟨(some 25), none, .act, .mv (.tmp 10)⟩,
      ⟨(some 4), none, .act, .mv (.const (.slice none 0 0))⟩,
      ⟨(some 5), none, .act, .mv (.tmp 25)⟩])
    .ret)
    .skip))
   (.region [
     ⟨(some 26), none, .act, .mv (.tmp 6)⟩,
     ⟨(some 27), none, .act, .mv (.tmp 9)⟩,
     ⟨(some 28), none, .act, .buildSl 1 [(.slice none 0 0)] 1 [(0, (.tmp 27))]⟩,
     ⟨(some 29), none, .act, .append 1 24 [(.slice none 0 0)] (.tmp 26) (.tmp 28)⟩,
     ⟨(some 6), none, .act, .mv (.tmp 29)⟩])))))
  (.region [
    ⟨(some 30), none, .act, .bin .add (.tmp 13) (.const (.int .i64 1))⟩,
    ⟨(some 13), none, .act, .mv (.tmp 30)⟩]))))
def r11 : RCode :=
  (.seq (.region [
    ⟨(some 4), none, .act, .mv (.const (.slice none 0 0))⟩,
    ⟨(some 5), none, .act, .mv (.const (.int .i64 0))⟩])
  (.seq (.region [
    ⟨(some 6), none, .act, .mv (.const (.slice none 0 0))⟩])
  (.seq (.seq (.region [
    ⟨(some 11), none, .act, .mv (.tmp 0)⟩,
    ⟨(some 12), none, .act, .len (.tmp 11)⟩,
    ⟨(some 13), none, .act, .mv (.const (.int .i64 0))⟩])
  (.block 0
   (.loop r11l0)))
  (.seq (.region [
    ⟨(some 31), none, .act, .mv (.tmp 6)⟩,
    ⟨(some 4), none, .act, .mv (.tmp 31)⟩,
    ⟨(some 5), none, .act, .mv (.const (.int .i64 0))⟩])
  .ret))))
theorem res11 : ∃ c, Try.f11.body = some c ∧ resCode Try.prog 32 c = some r11 := ⟨_, rfl, by kernel_rfl⟩
theorem rr11 : resRes Try.prog Try.f11.results.toList = some [.tmp 4, .tmp 5] := by kernel_rfl
theorem project_loop (v : Row → Row × Int) (wh : List Ex) (l : List Row) (hl : l.length ≤ 1000) (c25 : ∀ r ∈ l, ∀ h, ACalls Try.prog 25 [exprs wh, rowA r] h (fun x h' => x = rowP (v r) ∧ h' = h)) (h₀ : AHeap) (k : List RT) (Q : AV → AHeap → Prop)
    (hk : ∀ out c h, Grow h₀ h c → errF v l = 0 → RRun Try.prog Try.f11 32 k (Env.get [(6, rowsC out c)]) h Q)
    (hf : ∀ h, h₀.le h → Q (.tu [.v (.slice none 0 0), i64 (errF v l)]) h) : ∀ (m i : Nat) (acc : List Row) (c : Cap) (h : AHeap), i + m = l.length → acc.length = i → errF v l = errF v (l.drop i) → Grow h₀ h c →
    RRun Try.prog Try.f11 32 (.inLoop r11l0 :: .inBlock 0 :: k) (Env.get [(1, exprs wh), (6, rowsC acc c), (11, rowsA l), (12, i64 l.length), (13, i64 i)]) h Q := by
  intro m
  induction m with
  | zero =>
    intro i acc c h hi ha ht hg
    rw [List.drop_of_length_le (by omega)] at ht
    refine RRun.inLoop ?_
    repeat' (first | refine S.nilK ?_ | (refine S.op rfl ?_; first | ((first | refine S.lss rfl rfl ?_ ?_) <;> intro hlt <;> try (exfalso; omega))) | refine S.seq ?_ | refine S.region ?_ | refine S.condF rfl ?_ | refine RRun.exit rfl ?_)
    exact S.keep [6] rfl (hk acc c h hg ht)
  | succ m ih =>
    intro i acc c h hi ha ht hg
    have hie : i < l.length := by omega
    have h1 : (l.map fun r => [rowA r])[((i : Nat) : Int).toNat]? = some [rowA l[i]] := by simp [hie]
    have c := fun h => c25 l[i] (List.getElem_mem hie) h
    have hlen : (acc.map fun r => [rowA r]).length = acc.length := by simp
    rw [errF_drop hie] at ht
    generalize l[i] = r at h1 c ht
    generalize v r = q at c ht
    obtain ⟨q1, q2⟩ := q
    simp only at ht
    refine RRun.inLoop ?_
    by_cases hq : q2 = 0
    · rw [if_pos hq] at ht
      subst hq
      repeat' (first | refine S.nilK ?_ | (refine S.op rfl ?_; first | refine R.indexAddr rfl rfl (by omega) h1 ?_ | refine callS rfl rfl (c _) ?_ | refine S.eqIntSame (a := 0) rfl rfl ?_ | refine R.mv rfl ?_ | refine R.loadR rfl rfl ?_ | refine R.extract rfl rfl ?_ | refine R.buildSl rfl rfl rfl (by decide) ?_ | ((first | refine S.lss rfl rfl ?_ ?_) <;> intro hlt <;> try (exfalso; omega))) | refine S.seq ?_ | refine S.region ?_ | refine S.condT rfl ?_ | refine S.condF rfl ?_ | refine RRun.skip ?_ | refine RRun.block ?_)
      refine S.op rfl (S.appendG rfl hg rfl (.sl _ _) rfl (.sl [[rowA q1]] _) (row_one q1) (by rw [hlen]; simp; omega) (by rw [hlen]; simp; omega) (fun c' h' hg' hbox => ?_))
      repeat' (first | refine S.nilK ?_ | (refine S.op rfl ?_; first | refine R.mv rfl ?_ | refine S.addI rfl rfl (by omega) ?_) | refine S.region ?_ | refine RRun.inBlock ?_)
      rw [rows_snoc, show ((i : Int) + 1) = ((i + 1 : Nat) : Int) by omega]
      exact S.keep [1, 6, 11, 12, 13] rfl (ih (i + 1) _ _ _ (by omega) (by simp; omega) ht hg')
    · rw [if_neg hq] at ht
      repeat' (first | refine S.nilK ?_ | (refine S.op rfl ?_; first | refine R.indexAddr rfl rfl (by omega) h1 ?_ | refine callS rfl rfl (c _) ?_ | refine R.mv rfl ?_ | refine R.loadR rfl rfl ?_ | refine R.extract rfl rfl ?_ | ((first | refine S.lss rfl rfl ?_ ?_ | refine S.eqInt rfl rfl ?_ ?_) <;> intro hlt <;> try (exfalso; omega))) | refine S.seq ?_ | refine S.region ?_ | refine S.condT rfl ?_ | refine RRun.skip ?_ | refine RRun.block ?_)
      apply S.ret rr11
      case hx => repeat (first | exact ResAt.nil | apply ResAt.tmp rfl)
      have := hf _ hg.le
      rw [ht] at this
      exact this
theorem project_spec (v : Row → Row × Int) (wh : List Ex) (l : List Row) (hl : l.length ≤ 1000) (c25 : ∀ r ∈ l, ∀ h, ACalls Try.prog 25 [exprs wh, rowA r] h (fun x h' => x = rowP (v r) ∧ h' = h)) (h : AHeap) :
    ACalls Try.prog 11 [rowsA l, exprs wh] h (fun x h' => (∃ out, x = .tu [rowsA out, i64 (errF v l)]) ∧ h' = h) := by
  obtain ⟨c', hc1, hc2⟩ := res11
  refine ACalls.weak (ACalls.enter Try.func11 hc1 Try.ntmps11 hc2 (Nat.le_of_ble_eq_true rfl) rfl ?_)
  have hlen : (l.map fun r => [rowA r]).length = l.length := by simp
  repeat' (first | refine S.nilK ?_ | (refine S.op rfl ?_; first | refine R.mv rfl ?_ | refine R.len rfl ?_) | refine S.seq ?_ | refine S.region ?_ | refine RRun.block ?_)
  rw [hlen]
  refine RRun.loopIn (S.keep [1, 6, 11, 12, 13] rfl (RRun.envs (.cons 1 (.refl _) (.cons 6 (.nilSl 1 (c := .full) trivial) (.cons 11 (.refl _) (.cons 12 (.refl _) (.cons 13 (.refl _) .nil))))) (project_loop v wh l hl c25 h _ _ (fun out c h1 hg hd => ?_) (fun h1 hle => ⟨_, h, .tu (.cons (.nilSl 1 (c := .ro) trivial) (.cons (.refl _) .nil)), hle, ⟨[], rfl⟩, rfl⟩) l.length 0 [] .full h (by omega) rfl rfl (Grow.start h))))
  repeat' (first | refine S.nilK ?_ | (refine S.op rfl ?_; first | refine R.mv rfl ?_) | refine S.seq ?_ | refine S.region ?_)
  apply S.ret rr11
  case hx => repeat (first | exact ResAt.nil | apply ResAt.tmp rfl)
  exact ⟨_, h, .tu (.cons (.toRo _ _ _) (.cons (.refl _) .nil)), hg.le, ⟨out, by rw [hd]⟩, rfl⟩
end Go.Proofs.Ythadifboeggnpaa

namespace Go.Proofs.Ythadifboeggnpaa
open Go.Av
def r23k : RCode :=
  (.region [
     ⟨(some 49), none, .act, .mv (.tmp 6)⟩,
     ⟨(some 50), none, .act, .mv (.tmp 13)⟩,
     ⟨(some 51), none, .act, .mv (.tmp 6)⟩,
     ⟨(some 52), none, .act, .mv (.tmp 13)⟩,
     ⟨(some 53), none, .act, .indexAddr 1 (.tmp 51) (.tmp 52)⟩,
     ⟨(some 54), none, .act, .load false 1 (.tmp 53)⟩,
     ⟨(some 55), none, .act, .mv (.tmp 9)⟩,
     ⟨(some 56), none, .act, .buildSl 1 [(.slice none 0 0)] 1 [(0, (.tmp 55))]⟩,
     ⟨(some 57), none, .act, .append 1 24 [(.slice none 0 0)] (.tmp 54) (.tmp 56)⟩,
     ⟨(some 58), none, .act, .indexAddr 1 (.tmp 49) (.tmp 50)⟩,
     ⟨none, none, .act, .store 1 (.tmp 58) (.tmp 57)⟩])
def r23j : RCode :=
  (.region [
      ⟨(some 46), none, .act, .mv (.tmp 6)⟩,
      ⟨(some 47), none, .act, .buildSl 1 [(.slice none 0 0)] 1 [(0, (.const (.slice none 0 0)))]⟩,
      ⟨(some 48), none, .act, .append 1 24 [(.slice none 0 0)] (.tmp 46) (.tmp 47)⟩,
      ⟨(some 6), none, .act, .mv (.tmp 48)⟩])
theorem load_at {B : List AV} {j : Nat} {a : AV} (h : B[j]? = some a) : loadAV false 1 (B.drop (0 + ((j : Nat) : Int).toNat * 1)) = some a := by
  have : B.drop (0 + ((j : Nat) : Int).toNat * 1) = B.drop j := by congr 1; omega
  rw [this]
  obtain ⟨hlt, rfl⟩ := List.getElem?_eq_some_iff.1 h
  rw [List.drop_eq_getElem_cons hlt]
  simp [loadAV]
theorem over_at {B : List AV} {j : Nat} (h : j < B.length) (a : AV) : over B (0 + ((j : Nat) : Int).toNat * 1) [a] = B.set j a := by
  have e : 0 + ((j : Nat) : Int).toNat * 1 = j := by omega
  rw [e]
  unfold over
  rw [List.set_eq_take_append_cons_drop, if_pos h]
  simp
theorem push_walk (j n cap bo : Nat) (B : List AV) (cell : AV) (xs : List (List AV)) (c0 : Cap) (r : Row) (h : AHeap) (hB : h bo = some (.box B)) (hj : j < n) (hjB : j < B.length) (hcell : B[j]? = some cell) (hd : Dst 1 cell xs c0) (ho : OwnT h c0) (hxs : xs.length ≤ 1000000) (x1 x7 x16 x17 x18 : AV) (k : List RT) (Q : AV → AHeap → Prop)
    (H : ∀ c' h', OwnT h' c' → (∀ x o, h x = some o → ¬ TokC c0 x → h' x = some o) → (∀ x, TokC c' x → TokC c0 x ∨ h x = none) →
      RRun Try.prog Try.f23 72 k (Env.get [(1, x1), (6, slAt bo 0 n cap), (7, x7), (16, x16), (17, x17), (18, x18)]) (h'.set bo (.box (B.set j (.sl 1 (xs ++ [[rowA r]]) c')))) Q) :
    RRun Try.prog Try.f23 72 (.code r23k :: k) (Env.get [(1, x1), (6, slAt bo 0 n cap), (7, x7), (9, rowA r), (13, i64 j), (16, x16), (17, x17), (18, x18)]) h Q := by
  have hl := load_at hcell
  unfold r23k
  repeat' (first | (refine S.op rfl ?_; first | refine R.indexAddrV rfl rfl (by omega) (by omega) ?_ | refine R.load (by decide) rfl hB hl ?_ | refine R.mv rfl ?_ | refine R.buildSl rfl rfl rfl (by decide) ?_) | refine S.region ?_)
  refine S.op rfl (S.appendT (ys := [[rowA r]]) rfl ho rfl hd rfl (.sl _ _) (row_one r) (by simp; omega) (by simp; omega) (fun c' h' ho' hfr htk => ?_))
  have hB' : h' bo = some (.box B) := hfr bo _ hB (fun ⟨u, s, e⟩ => by
    rcases ho with rfl | ⟨b, u', s', rfl, hb⟩
    · cases e
    · cases e; rw [hB] at hb; cases hb)
  repeat' (first | ((refine S.op0 rfl ?_; refine R.store rfl rfl hB' rfl rfl rfl (by omega) ?_)) | refine S.nilK ?_ | (refine S.op rfl ?_; first | refine R.indexAddrV rfl rfl (by omega) (by omega) ?_))
  rw [over_at hjB]
  exact S.keep [1, 6, 7, 16, 17, 18] rfl (H c' h' ho' hfr htk)
def gcells (gs : List (List Row)) (cs : List Cap) : List AV := List.zipWith (fun g c => rowsC g c) gs cs
structure GOwn (h₀ h : AHeap) (cs : List Cap) : Prop where
  own : ∀ (k : Nat) (c : Cap), cs[k]? = some c → OwnT h c
  new : ∀ (k : Nat) (c : Cap) (x : Nat), cs[k]? = some c → TokC c x → h₀ x = none
  apart : ∀ (j k : Nat) (c d : Cap) (x : Nat), cs[j]? = some c → cs[k]? = some d → TokC c x → TokC d x → j = k
theorem tok_grow {h : AHeap} {c : Cap} (ho : OwnT h c) {x : Nat} (hx : TokC c x) : ∃ u s, h x = some (.grow u s) := by
  obtain ⟨u, s, rfl⟩ := hx
  rcases ho with e | ⟨b, u', s', e, hb⟩
  · cases e
  · cases e; exact ⟨_, _, hb⟩
theorem GOwn.setB {h₀ h : AHeap} {cs : List Cap} (hg : GOwn h₀ h cs) {x0 : Nat} (o : ABlk) (hx : ∀ u s, h x0 ≠ some (.grow u s)) : GOwn h₀ (h.set x0 o) cs :=
  ⟨fun k c hc => ownT_loc (hg.own k c hc) fun x hx' => by
    obtain ⟨u, s, e⟩ := tok_grow (hg.own k c hc) hx'
    exact AHeap.set_other _ _ fun e' => hx u s (by rw [← e']; exact e), hg.new, hg.apart⟩
theorem GOwn.frame {h₀ h h' : AHeap} {cs : List Cap} {c0 : Cap} (hg : GOwn h₀ h cs) (hfr : ∀ x o, h x = some o → ¬ TokC c0 x → h' x = some o) {k : Nat} {c : Cap} (hc : cs[k]? = some c) (hap : ∀ x, TokC c x → ¬ TokC c0 x) : OwnT h' c :=
  ownT_loc (hg.own k c hc) fun x hx => by
    obtain ⟨u, s, e⟩ := tok_grow (hg.own k c hc) hx
    rw [e, hfr x _ e (hap x hx)]
theorem GOwn.push {h₀ h h' : AHeap} {cs : List Cap} {j : Nat} {c0 c' : Cap} (hg : GOwn h₀ h cs) (hle : h₀.le h) (hj : cs[j]? = some c0) (ho : OwnT h' c') (hfr : ∀ x o, h x = some o → ¬ TokC c0 x → h' x = some o) (htk : ∀ x, TokC c' x → TokC c0 x ∨ h x = none) : GOwn h₀ h' (cs.set j c') := by
  have hlt := (List.getElem?_eq_some_iff.1 hj).1
  have hsplit : ∀ (k : Nat) (c : Cap), (cs.set j c')[k]? = some c → (k = j ∧ c = c') ∨ (k ≠ j ∧ cs[k]? = some c) := fun k c hc => by
    by_cases hk : k = j
    · subst hk; rw [List.getElem?_set_self hlt] at hc; exact .inl ⟨rfl, (Option.some.inj hc).symm⟩
    · rw [List.getElem?_set_ne (Ne.symm hk)] at hc; exact .inr ⟨hk, hc⟩
  have hno : ∀ (k : Nat) (d : Cap) (x : Nat), k ≠ j → cs[k]? = some d → TokC c' x → TokC d x → False := fun k d x hk hd hx hx' => by
    rcases htk x hx with h1 | h1
    · exact hk (hg.apart k j d c0 x hd hj hx' h1)
    · obtain ⟨u, s, e⟩ := tok_grow (hg.own k d hd) hx'
      rw [h1] at e; cases e
  refine ⟨fun k c hc => ?_, fun k c x hc hx => ?_, fun a b c d x hc hd hx hx' => ?_⟩
  · rcases hsplit k c hc with ⟨rfl, rfl⟩ | ⟨hk, hc⟩
    · exact ho
    · exact hg.frame hfr hc fun x hx hx' => hk (hg.apart k j c c0 x hc hj hx hx')
  · rcases hsplit k c hc with ⟨rfl, rfl⟩ | ⟨hk, hc⟩
    · rcases htk x hx with h1 | h1
      · exact hg.new _ _ x hj h1
      · exact hle.none h1
    · exact hg.new _ _ x hc hx
  · rcases hsplit a c hc with ⟨ha, hc1⟩ | ⟨ha, hc1⟩ <;> rcases hsplit b d hd with ⟨hb, hd1⟩ | ⟨hb, hd1⟩
    · rw [ha, hb]
    · exact (hno b d x hb hd1 (hc1 ▸ hx) hx').elim
    · exact (hno a c x ha hc1 (hd1 ▸ hx') hx).elim
    · exact hg.apart a b c d x hc1 hd1 hx hx'
theorem GOwn.snoc {h₀ h : AHeap} {cs : List Cap} (hg : GOwn h₀ h cs) : GOwn h₀ h (cs ++ [.full]) := by
  have hsplit : ∀ (k : Nat) (c : Cap), (cs ++ [Cap.full])[k]? = some c → cs[k]? = some c ∨ c = Cap.full := fun k c hc => by
    rcases Nat.lt_or_ge k cs.length with h1 | h1
    · rw [List.getElem?_append_left h1] at hc; exact .inl hc
    · rw [List.getElem?_append_right h1] at hc
      obtain ⟨hlt, he⟩ := List.getElem?_eq_some_iff.1 hc
      exact .inr (by rw [← he]; simp)
  have hft : ∀ x, ¬ TokC Cap.full x := fun x ⟨u, s, e⟩ => by cases e
  refine ⟨fun k c hc => ?_, fun k c x hc hx => ?_, fun a b c d x hc hd hx hx' => ?_⟩
  · rcases hsplit k c hc with hc | rfl
    · exact hg.own k c hc
    · exact .inl rfl
  · rcases hsplit k c hc with hc | rfl
    · exact hg.new k c x hc hx
    · exact (hft x hx).elim
  · rcases hsplit a c hc with hc | rfl
    · rcases hsplit b d hd with hd | rfl
      · exact hg.apart a b c d x hc hd hx hx'
      · exact (hft x hx').elim
    · exact (hft x hx).elim
theorem le_frame {h₀ h h' : AHeap} {c0 : Cap} (hle : h₀.le h) (hnew : ∀ x, TokC c0 x → h₀ x = none) (hfr : ∀ x o, h x = some o → ¬ TokC c0 x → h' x = some o) : h₀.le h' := fun x o e => by
  obtain ⟨o', e', b⟩ := hle x o e
  exact ⟨o', hfr x o' e' (fun hx => by rw [hnew x hx] at e; cases e), b⟩
theorem gcells_len {gs : List (List Row)} {cs : List Cap} (h : cs.length = gs.length) : (gcells gs cs).length = gs.length := by simp [gcells, h]
theorem gcells_get {gs : List (List Row)} {cs : List Cap} {j : Nat} {g : List Row} {c : Cap} (hg : gs[j]? = some g) (hc : cs[j]? = some c) : (gcells gs cs)[j]? = some (rowsC g c) := by
  simp [gcells, List.getElem?_zipWith, hg, hc]
theorem gcells_set {gs : List (List Row)} {cs : List Cap} (h : cs.length = gs.length) (j : Nat) (g : List Row) (c : Cap) (sp : List AV) (hj : j < gs.length) : (gcells gs cs ++ sp).set j (rowsC g c) = gcells (gs.set j g) (cs.set j c) ++ sp := by
  rw [List.set_append_left _ _ (by rw [gcells_len h]; exact hj)]
  congr 1
  apply List.ext_getElem?
  intro i
  by_cases hi : i = j
  · subst hi
    rw [List.getElem?_set_self (by rw [gcells_len h]; exact hj)]
    simp [gcells, List.getElem?_zipWith, List.getElem?_set_self hj, List.getElem?_set_self (show i < cs.length by omega)]
  · rw [List.getElem?_set_ne (Ne.symm hi)]
    simp [gcells, List.getElem?_zipWith, List.getElem?_set_ne (Ne.symm hi)]
theorem gcells_snoc {gs : List (List Row)} {cs : List Cap} (h : cs.length = gs.length) (g : List Row) (c : Cap) : gcells (gs ++ [g]) (cs ++ [c]) = gcells gs cs ++ [rowsC g c] := by
  unfold gcells
  rw [List.zipWith_append h.symm]
  rfl
def MapOk (ents : List (Value × AV)) (n : Nat) : Prop :=
  (∀ p ∈ ents, strKey p.1 ∧ ∃ j : Nat, j < n ∧ p.2 = i64 j) ∧ ∀ p ∈ ents, ∀ q ∈ ents, p.1 = q.1 → p.2 = q.2
theorem MapOk.snoc {ents : List (Value × AV)} {n : Nat} (h : MapOk ents n) {key : Value} (hs : strKey key) (hno : ∀ p ∈ ents, p.1 ≠ key) : MapOk (ents ++ [(key, i64 n)]) (n + 1) := by
  refine ⟨fun p hp => ?_, fun p hp q hq e => ?_⟩
  · rcases List.mem_append.1 hp with hp | hp
    · obtain ⟨h1, j, h2, h3⟩ := h.1 p hp
      exact ⟨h1, j, by omega, h3⟩
    · rw [List.mem_singleton] at hp; subst hp
      exact ⟨hs, n, by omega, rfl⟩
  · rcases List.mem_append.1 hp with hp | hp <;> rcases List.mem_append.1 hq with hq | hq
    · exact h.2 p hp q hq e
    · rw [List.mem_singleton] at hq; subst hq; exact absurd e (hno p hp)
    · rw [List.mem_singleton] at hp; subst hp; exact absurd e.symm (hno q hq)
    · rw [List.mem_singleton] at hp hq; rw [hp, hq]
def OutOk (h₀ h : AHeap) (out : AV) (gs : List (List Row)) : Prop :=
  (gs = [] ∧ out = .v (.slice none 0 0)) ∨ ∃ (bo cap : Nat) (cs : List Cap) (sp : List AV), out = slAt bo 0 gs.length cap ∧ h bo = some (.box (gcells gs cs ++ sp)) ∧ cs.length = gs.length ∧ sp.length + gs.length = cap ∧ cap ≤ maxLen ∧ h₀ bo = none ∧ GOwn h₀ h cs ∧ gs ≠ []
theorem new_walk (gs : List (List Row)) (hgs : gs.length ≤ 1000) (h₀ h : AHeap) (hle : h₀.le h) (bm : Nat) (ents : List (Value × AV)) (hbm : h bm = some (.map ents)) (out : AV) (ho : OutOk h₀ h out gs) (x1 x7 x9 x13 x16 x17 x18 : AV) (k : List RT) (Q : AV → AHeap → Prop)
    (H : ∀ (bo cap : Nat) (cs : List Cap) (sp : List AV) (h3 : AHeap), h3 bo = some (.box (gcells gs cs ++ [.v (.slice none 0 0)] ++ sp)) → cs.length = gs.length → sp.length + (gs.length + 1) = cap → cap ≤ maxLen → h₀ bo = none → GOwn h₀ h3 cs → h₀.le h3 → h3 bm = some (.map ents) →
      RRun Try.prog Try.f23 72 k (Env.get [(1, x1), (6, slAt bo 0 (gs.length + 1) cap), (7, x7), (9, x9), (13, x13), (16, x16), (17, x17), (18, x18)]) h3 Q) :
    RRun Try.prog Try.f23 72 (.code r23j :: k) (Env.get [(1, x1), (6, out), (7, x7), (9, x9), (13, x13), (16, x16), (17, x17), (18, x18)]) h Q := by
  have hone : ∀ e ∈ ([[.v (.slice none 0 0)]] : List (List AV)), ∀ a ∈ e, a.one = true := by
    intro e he a ha; simp at he; subst he; simp at ha; subst ha; rfl
  rcases ho with ⟨rfl, rfl⟩ | ⟨bo, cap, cs, sp, rfl, hbo, hcs, hsp, hcap, h0o, hg, -⟩
  · unfold r23j
    repeat' (first | (refine S.op rfl ?_; first | refine R.mv rfl ?_ | refine R.buildSl rfl rfl rfl (by decide) ?_) | refine S.region ?_)
    refine S.op rfl (R.appendBox (ys := [[.v (.slice none 0 0)]]) rfl rfl .nil rfl (.sl _ _) hone (by simp) (by simp) (by simp) (fun b cap hb hc1 hc2 => ?_))
    repeat' (first | refine S.nilK ?_ | (refine S.op rfl ?_; first | refine R.mv rfl ?_))
    refine S.keep [1, 6, 7, 9, 13, 16, 17, 18] rfl (H b cap [] (List.replicate ((cap - 1) * 1) .any) _ (AHeap.set_same _ _ _) rfl (by simp at hc1 ⊢; omega) hc2 (hle.none hb) ⟨fun k c hc => by simp at hc, fun k c x hc => by simp at hc, fun a b c d x hc => by simp at hc⟩ (hle.set _ (hle.none hb)) (AHeap.get_fresh hb hbm))
  · have hgl := gcells_len hcs
    unfold r23j
    repeat' (first | (refine S.op rfl ?_; first | refine R.mv rfl ?_ | refine R.buildSl rfl rfl rfl (by decide) ?_) | refine S.region ?_)
    have hne : bo ≠ bm := fun e => by rw [e, hbm] at hbo; cases hbo
    refine S.op rfl (R.appendOwn (ys := [[.v (.slice none 0 0)]]) rfl rfl hbo (by simp [hgl]; omega) (by omega) rfl (.sl _ _) hone (by simp) (by simp; omega) (by simp; omega) (fun hfit => ?_) (fun b' cap' hb' hc1 hc2 => ?_))
    ·
      repeat' (first | refine S.nilK ?_ | (refine S.op rfl ?_; first | refine R.mv rfl ?_))
      refine S.keep [1, 6, 7, 9, 13, 16, 17, 18] rfl (H bo cap cs (sp.drop 1) _ ?_ hcs (by simp at hfit ⊢; omega) hcap h0o (hg.setB _ (fun u s e => by rw [hbo] at e; cases e)) (hle.set _ h0o) ((AHeap.set_other _ _ (Ne.symm hne)).trans hbm))
      rw [AHeap.set_same]
      congr 2
      unfold over
      have e1 : 0 + gs.length * 1 = (gcells gs cs).length := by rw [hgl]; omega
      rw [e1, List.take_append_of_le_length (Nat.le_refl _), List.take_of_length_le (Nat.le_refl _), List.drop_append, List.drop_of_length_le (by simp)]
      simp
    ·
      repeat' (first | refine S.nilK ?_ | (refine S.op rfl ?_; first | refine R.mv rfl ?_))
      refine S.keep [1, 6, 7, 9, 13, 16, 17, 18] rfl (H b' cap' cs (List.replicate ((cap' - (gs.length + 1)) * 1) .any) _ ?_ hcs (by simp at hc1 ⊢; omega) hc2 (hle.none hb') (hg.setB _ (fun u s e => by rw [hb'] at e; cases e)) (hle.set _ (hle.none hb')) (AHeap.get_fresh hb' hbm))
      rw [AHeap.set_same]
      congr 2
      rw [List.drop_zero, Nat.mul_one, ← hgl, List.take_append_of_le_length (Nat.le_refl _), List.take_of_length_le (Nat.le_refl _)]
      simp
end Go.Proofs.Ythadifboeggnpaa

namespace Go.Proofs.Ythadifboeggnpaa
open Go.Av
def total (gs : List (List Row)) : Nat := (gs.map List.length).sum
theorem total_set {gs : List (List Row)} {j : Nat} {g : List Row} (r : Row) (h : gs[j]? = some g) : total (gs.set j (g ++ [r])) = total gs + 1 := by
  unfold total
  induction gs generalizing j with
  | nil => simp at h
  | cons x gs ih =>
    cases j with
    | zero => simp at h; subst h; simp; omega
    | succ j => have := ih (by simpa using h); simp at this ⊢; omega
theorem len_le_total {g : List Row} : ∀ {gs : List (List Row)}, g ∈ gs → g.length ≤ total gs
  | [], h => by cases h
  | x :: gs, h => by
    have e : total (x :: gs) = x.length + total gs := by simp [total]
    rcases List.mem_cons.1 h with rfl | h
    · omega
    · have := len_le_total h; omega
theorem total_snoc (gs : List (List Row)) (r : Row) : total (gs ++ [[r]]) = total gs + 1 := by simp [total]
theorem OutOk.slice {h₀ h : AHeap} {out : AV} {gs : List (List Row)} (ho : OutOk h₀ h out gs) : ∃ a cp, out = .v (.slice a gs.length cp) := by
  rcases ho with ⟨rfl, rfl⟩ | ⟨bo, cap, cs, sp, rfl, _⟩
  · exact ⟨none, 0, rfl⟩
  · exact ⟨_, cap, rfl⟩
theorem OutOk.setMap {h₀ h : AHeap} {out : AV} {gs : List (List Row)} (ho : OutOk h₀ h out gs) {bm : Nat} {ents : List (Value × AV)} (hbm : h bm = some (.map ents)) (o : ABlk) : OutOk h₀ (h.set bm o) out gs := by
  rcases ho with h1 | ⟨bo, cap, cs, sp, h1, h2, h3, h4, h5, h6, h7, h8⟩
  · exact .inl h1
  · exact .inr ⟨bo, cap, cs, sp, h1, (AHeap.set_other _ _ (fun e => by rw [e, hbm] at h2; cases h2)).trans h2, h3, h4, h5, h6, h7.setB _ (fun u s e => by rw [hbm] at e; cases e), h8⟩
set_option maxHeartbeats 800000 in
theorem groups_loop (v : Row → Row × Int) (wh : List Ex) (l : List Row) (hl : l.length ≤ 100) (hv : ∀ r ∈ l, (v r).1.length ≤ 10 ∧ ∀ x ∈ (v r).1, x.s.length ≤ 100000) (c25 : ∀ r ∈ l, ∀ h, ACalls Try.prog 25 [exprs wh, rowA r] h (fun x h' => x = rowP (v r) ∧ h' = h)) (h₀ : AHeap) (bm : Nat) (h0m : h₀ bm = none) (k : List RT) (Q : AV → AHeap → Prop)
    (hk : ∀ out gs h, h₀.le h → OutOk h₀ h out gs → errF v l = 0 → total gs = l.length → (∀ g ∈ gs, g ≠ []) → gs.length ≤ l.length → RRun Try.prog Try.f23 72 k (Env.get [(1, exprs wh), (6, out)]) h Q)
    (hf : ∀ h, h₀.le h → errF v l ≠ 0 → Q (.tu [.v (.slice none 0 0), i64 (errF v l)]) h) : ∀ (m i : Nat) (gs : List (List Row)) (out : AV) (ents : List (Value × AV)) (h : AHeap), i + m = l.length → total gs = i → (∀ g ∈ gs, g ≠ []) → gs.length ≤ i → errF v l = errF v (l.drop i) → h₀.le h → h bm = some (.map ents) → MapOk ents gs.length → OutOk h₀ h out gs →
    RRun Try.prog Try.f23 72 (.inLoop r23l0 :: .inBlock 0 :: k) (Env.get [(1, exprs wh), (6, out), (7, .v (.map (some bm))), (16, rowsA l), (17, i64 l.length), (18, i64 i)]) h Q := by
  intro m
  induction m with
  | zero =>
    intro i gs out ents h hi htot hne hgl ht hle hbm hmap ho
    rw [List.drop_of_length_le (by omega)] at ht
    refine RRun.inLoop ?_
    repeat' (first | refine S.nilK ?_ | (refine S.op rfl ?_; first | ((first | refine S.lss rfl rfl ?_ ?_) <;> intro hlt <;> try (exfalso; omega))) | refine S.seq ?_ | refine S.region ?_ | refine S.condF rfl ?_ | refine RRun.exit rfl ?_)
    exact S.keep [1, 6] rfl (hk out gs h hle ho ht (by omega) hne (by omega))
  | succ m ih =>
    intro i gs out ents h hi htot hne hgl ht hle hbm hmap ho
    have hie : i < l.length := by omega
    have h1 : (l.map fun r => [rowA r])[((i : Nat) : Int).toNat]? = some [rowA l[i]] := by simp [hie]
    have c := fun h => c25 l[i] (List.getElem_mem hie) h
    have hvi := hv _ (List.getElem_mem hie)
    rw [errF_drop hie] at ht
    generalize l[i] = r at h1 c ht hvi
    generalize v r = q at c ht hvi
    obtain ⟨q1, q2⟩ := q
    simp only at ht hvi
    have c33 := fun h => name_spec q1 hvi.1 hvi.2 h
    generalize nameF q1 = key at c33
    refine RRun.inLoop ?_
    by_cases hq : q2 = 0
    · rw [if_pos hq] at ht
      subst hq
      have hall : ∀ p ∈ ents, strKey p.1 := fun p hp => (hmap.1 p hp).1
      have hkey : strKey (.string ⟨key.toArray⟩) := ⟨_, rfl⟩
      have hya : ∀ st u, VRel st (str key) u → u = .string ⟨key.toArray⟩ := fun st u hu => hu.inv_v
      by_cases hfound : ∃ p ∈ ents, p.1 = .string ⟨key.toArray⟩
      · obtain ⟨p0, hp0, hpk⟩ := hfound
        obtain ⟨_, j, hj, hpj⟩ := hmap.1 p0 hp0
        rcases ho with ⟨rfl, _⟩ | ⟨bo, cap, cs, sp, rfl, hbo, hcs, hsp, hcap, h0o, hg, hgn⟩
        · simp at hj
        have hyes : ∀ (j' : Nat) (av : AV), ents[j']? = some (.string ⟨key.toArray⟩, av) → AV.tu [i64 j, .v (.bool true)] = .tu [av, .v (.bool true)] := fun j' av he => by
          have := hmap.2 _ (List.mem_of_getElem? he) p0 hp0 hpk.symm
          simp only at this
          rw [this, hpj]
        have hno : (∀ p ∈ ents, p.1 ≠ .string ⟨key.toArray⟩) → AV.tu [i64 j, .v (.bool true)] = .tu [.v (.int .i64 0), .v (.bool false)] := fun hn => absurd hpk (hn p0 hp0)
        obtain ⟨g, hgj⟩ : ∃ g, gs[j]? = some g := ⟨_, List.getElem?_eq_getElem hj⟩
        obtain ⟨c0, hcj⟩ : ∃ c0, cs[j]? = some c0 := ⟨_, List.getElem?_eq_getElem (by omega)⟩
        have hcell : (gcells gs cs ++ sp)[j]? = some (rowsC g c0) := by rw [List.getElem?_append_left (by rw [gcells_len hcs]; exact hj)]; exact gcells_get hgj hcj
        have hjB : j < (gcells gs cs ++ sp).length := by rw [List.length_append, gcells_len hcs]; omega
        have htg : g.length ≤ total gs := len_le_total (List.mem_of_getElem? hgj)
        repeat' (first | ((show RRunG _ _ _ (.code r23k :: _) _ _ _; refine S.keep [1, 6, 7, 9, 13, 16, 17, 18] rfl (push_walk j gs.length cap bo _ (rowsC g c0) _ c0 r h hbo hj hjB hcell (.sl _ _) (hg.own j c0 hcj) (by simp; omega) _ _ _ _ _ _ _ (fun c' h' ho' hfr htk => ?_)); refine Stop.h ?_)) | refine S.nilK ?_ | (refine S.op rfl ?_; first | refine R.indexAddr rfl rfl (by omega) h1 ?_ | refine callS rfl rfl (c _) ?_ | refine callS rfl rfl (c33 _) ?_ | refine S.eqIntSame (a := 0) rfl rfl ?_ | refine R.lookupOkR (r := .tu [i64 j, .v (.bool true)]) (KeyR.str Try.underlying9) (by decide) rfl hbm rfl hya hkey hall hno hyes ?_ | refine R.mv rfl ?_ | refine R.loadR rfl rfl ?_ | refine R.not rfl ?_ | refine R.extract rfl rfl ?_ | ((first | refine S.lss rfl rfl ?_ ?_) <;> intro hlt <;> try (exfalso; omega))) | refine S.seq ?_ | refine S.region ?_ | refine S.condT rfl ?_ | refine S.condF rfl ?_ | refine RRun.skip ?_ | refine RRun.block ?_)
        refine ⟨?_⟩
        have hbo' : h' bo = some (.box (gcells gs cs ++ sp)) := hfr bo _ hbo fun hx => by
          obtain ⟨u, s, e⟩ := tok_grow (hg.own j c0 hcj) hx; rw [hbo] at e; cases e
        have hbm' : h' bm = some (.map ents) := hfr bm _ hbm fun hx => by
          obtain ⟨u, s, e⟩ := tok_grow (hg.own j c0 hcj) hx; rw [hbm] at e; cases e
        rw [rows_snoc, gcells_set hcs j (g ++ [r]) c' sp hj]
        repeat' (first | refine S.nilK ?_ | (refine S.op rfl ?_; first | refine R.mv rfl ?_ | refine S.addI rfl rfl (by omega) ?_) | refine S.region ?_ | refine RRun.inBlock ?_)
        rw [show ((i : Int) + 1) = ((i + 1 : Nat) : Int) by omega]
        refine S.keep [1, 6, 7, 16, 17, 18] rfl (ih (i + 1) (gs.set j (g ++ [r])) _ ents _ (by omega) (by rw [total_set r hgj]; omega) (fun g' hg' => ?_) (by simp; omega) ht ((le_frame hle (fun x hx => hg.new j c0 x hcj hx) hfr).set _ h0o) ((AHeap.set_other _ _ (fun e => by rw [e, hbo'] at hbm'; cases hbm')).trans hbm') (by rw [List.length_set]; exact hmap)
          (.inr ⟨bo, cap, cs.set j c', sp, by rw [List.length_set], AHeap.set_same _ _ _, by simp [hcs], by rw [List.length_set]; exact hsp, hcap, h0o, (hg.push hle hcj ho' hfr htk).setB _ (fun u s e => by rw [hbo'] at e; cases e), fun e => hgn (by simpa using e)⟩))
        rcases List.mem_or_eq_of_mem_set hg' with h | h
        · exact hne g' h
        · rw [h]; simp
      · have hno' : ∀ p ∈ ents, p.1 ≠ .string ⟨key.toArray⟩ := fun p hp e => hfound ⟨p, hp, e⟩
        have hyes : ∀ (j' : Nat) (av : AV), ents[j']? = some (.string ⟨key.toArray⟩, av) → AV.tu [.v (.int .i64 0), .v (.bool false)] = .tu [av, .v (.bool true)] := fun j' av he => absurd rfl (hno' _ (List.mem_of_getElem? he))
        obtain ⟨a, cp, hout⟩ := ho.slice
        subst hout
        have hbm1 : (h.set bm (.map (ents ++ [(Value.string ⟨key.toArray⟩, i64 gs.length)]))) bm = some (.map (ents ++ [(Value.string ⟨key.toArray⟩, i64 gs.length)])) := AHeap.set_same _ _ _
        have ho1 := ho.setMap hbm (.map (ents ++ [(Value.string ⟨key.toArray⟩, i64 gs.length)]))
        have hle1 : h₀.le (h.set bm (.map (ents ++ [(Value.string ⟨key.toArray⟩, i64 gs.length)]))) := hle.set _ h0m
        have hmap1 := hmap.snoc hkey hno'
        repeat' (first | ((show RRunG _ _ _ (.code r23j :: _) _ _ _; refine S.keep [1, 6, 7, 9, 13, 16, 17, 18] rfl (new_walk gs (by omega) h₀ _ hle1 bm _ hbm1 _ ho1 _ _ _ _ _ _ _ _ _ (fun bo cap cs sp h3 hbo hcs hsp hcap h0o hg hle3 hbm3 => ?_)); refine Stop.h ?_)) | ((refine S.op0 rfl ?_; refine R.mapUpdateR (KeyR.str Try.underlying9) rfl rfl hbm rfl hya rfl hkey hall (fun _ => ?_) (fun j' av he => absurd rfl (hno' _ (List.mem_of_getElem? he))))) | refine S.nilK ?_ | (refine S.op rfl ?_; first | refine R.indexAddr rfl rfl (by omega) h1 ?_ | refine callS rfl rfl (c _) ?_ | refine callS rfl rfl (c33 _) ?_ | refine S.eqIntSame (a := 0) rfl rfl ?_ | refine R.lookupOkR (r := .tu [.v (.int .i64 0), .v (.bool false)]) (KeyR.str Try.underlying9) (by decide) rfl hbm rfl hya hkey hall (fun _ => rfl) hyes ?_ | refine R.mv rfl ?_ | refine R.loadR rfl rfl ?_ | refine R.lenA rfl ?_ | refine R.not rfl ?_ | refine R.extract rfl rfl ?_ | ((first | refine S.lss rfl rfl ?_ ?_) <;> intro hlt <;> try (exfalso; omega))) | refine S.seq ?_ | refine S.region ?_ | refine S.condT rfl ?_ | refine S.condF rfl ?_ | refine RRun.skip ?_ | refine RRun.block ?_)
        refine ⟨?_⟩
        have hgl' := gcells_len hcs
        have hcell : (gcells gs cs ++ [AV.v (.slice none 0 0)] ++ sp)[gs.length]? = some (.v (.slice none 0 0)) := by
          rw [List.getElem?_append_left (by simp [hgl']), List.getElem?_append_right (by omega), hgl']; simp
        refine push_walk gs.length (gs.length + 1) cap bo _ (.v (.slice none 0 0)) [] .full r h3 hbo (by omega) (by simp [hgl']) hcell .nil (.inl rfl) (by simp) _ _ _ _ _ _ _ (fun c' h' ho' hfr htk => ?_)
        have hft : ∀ x, ¬ TokC Cap.full x := fun x ⟨u, s, e⟩ => by cases e
        have hbo' := hfr bo _ hbo (hft bo)
        have hbm' := hfr bm _ hbm3 (hft bm)
        have hset : (gcells gs cs ++ [AV.v (.slice none 0 0)] ++ sp).set gs.length (.sl 1 ([] ++ [[rowA r]]) c') = gcells (gs ++ [[r]]) (cs ++ [c']) ++ sp := by
          rw [gcells_snoc hcs, List.set_append_left _ _ (by simp [hgl']), List.set_append_right _ _ (by omega), hgl', Nat.sub_self]
          rfl
        rw [hset]
        have hg2 : GOwn h₀ h' (cs ++ [c']) := by
          have := hg.snoc.push (j := cs.length) hle3 (by simp) ho' hfr htk
          rwa [List.set_append_right _ _ (Nat.le_refl _), Nat.sub_self] at this
        have hlen1 : (gs ++ [[r]]).length = gs.length + 1 := by simp
        repeat' (first | refine S.nilK ?_ | (refine S.op rfl ?_; first | refine R.mv rfl ?_ | refine S.addI rfl rfl (by omega) ?_) | refine S.region ?_ | refine RRun.inBlock ?_)
        rw [show ((i : Int) + 1) = ((i + 1 : Nat) : Int) by omega]
        refine S.keep [1, 6, 7, 16, 17, 18] rfl (ih (i + 1) (gs ++ [[r]]) _ _ _ (by omega) (by rw [total_snoc]; omega) (fun g' hg' => ?_) (by simp; omega) ht ((le_frame hle3 (fun x hx => (hft x hx).elim) hfr).set _ h0o) ((AHeap.set_other _ _ (fun e => by rw [e, hbo'] at hbm'; cases hbm')).trans hbm') (by rw [hlen1]; exact hmap1)
          (.inr ⟨bo, cap, cs ++ [c'], sp, by rw [hlen1], AHeap.set_same _ _ _, by simp [hcs], by rw [hlen1]; exact hsp, hcap, h0o, hg2.setB _ (fun u s e => by rw [hbo'] at e; cases e), by simp⟩))
        rcases List.mem_append.1 hg' with h | h
        · exact hne g' h
        · rw [List.mem_singleton] at h; rw [h]; simp
    · rw [if_neg hq] at ht
      repeat' (first | refine S.nilK ?_ | (refine S.op rfl ?_; first | refine R.indexAddr rfl rfl (by omega) h1 ?_ | refine callS rfl rfl (c _) ?_ | refine R.mv rfl ?_ | refine R.loadR rfl rfl ?_ | refine R.extract rfl rfl ?_ | ((first | refine S.lss rfl rfl ?_ ?_ | refine S.eqInt rfl rfl ?_ ?_) <;> intro hlt <;> try (exfalso; omega))) | refine S.seq ?_ | refine S.region ?_ | refine S.condT rfl ?_ | refine RRun.skip ?_ | refine RRun.block ?_)
      apply S.ret rr23
      case hx => repeat (first | exact ResAt.nil | apply ResAt.tmp rfl)
      have := hf h hle (by rw [ht]; exact hq)
      rw [ht] at this
      exact this
end Go.Proofs.Ythadifboeggnpaa

namespace Go.Proofs.Ythadifboeggnpaa
open Go.Av
theorem flat_one : ∀ (l : List AV), (l.map fun a => [a]).flatten = l
  | [] => rfl
  | a :: l => by simp [flat_one l]
theorem ales_cells : ∀ (gs : List (List Row)) (cs : List Cap), cs.length = gs.length → ALes (gcells gs cs) ((gs.map fun g => [rowsA g]).flatten)
  | [], [], _ => .nil
  | g :: gs, c :: cs, h => by
    have := ales_cells gs cs (by simpa using h)
    exact .cons (.toRo _ _ _) this
  | [], c :: cs, h => by simp at h
  | g :: gs, [], h => by simp at h
def GroupsR (v : Row → Row × Int) (wh : List Ex) (l : List Row) (x : AV) : Prop :=
  (errF v l = 0 ∧ ∃ gs, x = .tu [groupsA gs, i64 0] ∧ total gs = l.length ∧ gs.length ≤ l.length + 1 ∧ (wh ≠ [] → ∀ g ∈ gs, g ≠ [])) ∨ (errF v l ≠ 0 ∧ x = .tu [groupsA [], i64 (errF v l)])
theorem groups_spec (v : Row → Row × Int) (wh : List Ex) (l : List Row) (hl : l.length ≤ 100) (hwh : wh.length ≤ 1000) (hv : ∀ r ∈ l, (v r).1.length ≤ 10 ∧ ∀ x ∈ (v r).1, x.s.length ≤ 100000) (c25 : ∀ r ∈ l, ∀ h, ACalls Try.prog 25 [exprs wh, rowA r] h (fun x h' => x = rowP (v r) ∧ h' = h)) (h : AHeap) :
    ACalls Try.prog 23 [rowsA l, exprs wh] h (fun x h' => GroupsR v wh l x ∧ h' = h) := by
  obtain ⟨c', hc1, hc2⟩ := res23
  refine ACalls.weak (ACalls.enter Try.func23 hc1 Try.ntmps23 hc2 (Nat.le_of_ble_eq_true rfl) rfl ?_)
  have hlen : (l.map fun r => [rowA r]).length = l.length := by simp
  have hlenw : (wh.map Ex.cells).length = wh.length := by simp
  repeat' (first | refine S.nilK ?_ | (refine S.op rfl ?_; first | refine R.makeMap rfl (fun b hb => ?_) | refine R.mv rfl ?_ | refine R.len rfl ?_) | refine S.seq ?_ | refine S.region ?_ | refine RRun.block ?_)
  rw [hlen]
  refine RRun.loopIn (S.keep [1, 6, 7, 16, 17, 18] rfl (groups_loop v wh l hl hv c25 h b hb _ _ (fun out gs h1 hle ho he htot hne hgl => ?_) (fun h1 hle he => ⟨_, h, .tu (.cons (.nilSl 1 (c := .ro) trivial) (.cons (.refl _) .nil)), hle, .inr ⟨he, rfl⟩, rfl⟩) l.length 0 [] _ [] _ (by omega) rfl (by simp) (by simp) rfl ((AHeap.le.refl _).set _ hb) (AHeap.set_same _ _ _) ⟨by simp, by simp⟩ (.inl ⟨rfl, rfl⟩)))
  rcases ho with ⟨rfl, rfl⟩ | ⟨bo, cap, cs, sp, rfl, hbo, hcs, hsp, hcap, h0o, hg, hgn⟩
  · by_cases hw : wh = []
    · subst hw
      have hlenw0 : (([] : List Ex).map Ex.cells).length = 0 := rfl
      repeat' (first | refine S.nilK ?_ | (refine S.op rfl ?_; first | refine R.mv rfl ?_ | refine R.pickT rfl rfl ?_ | refine R.len rfl ?_ | refine R.lenA rfl ?_ | refine R.buildSl rfl rfl rfl (by decide) ?_ | ((first | refine S.eqInt rfl rfl ?_ ?_) <;> intro hlt <;> try (exfalso; omega))) | refine S.seq ?_ | refine S.region ?_ | refine S.condT rfl ?_)
      refine S.op rfl (S.appendG (h₀ := h) (ys := [[.v (.slice none 0 0)]]) rfl (.of_le hle) rfl .nil rfl (.sl _ _) (by intro e he a ha; simp at he; subst he; simp at ha; subst ha; rfl) (by simp) (by simp) (fun c4 h4 hg4 _ => ?_))
      repeat' (first | refine S.nilK ?_ | (refine S.op rfl ?_; first | refine R.mv rfl ?_) | refine S.seq ?_ | refine S.region ?_)
      apply S.ret rr23
      case hx => repeat (first | exact ResAt.nil | apply ResAt.tmp rfl)
      refine ⟨_, h, .tu (.cons (.trans (.sl (es' := [[rowsA []]]) ?_ rfl ?_) (.toRo _ _ _)) (.cons (.refl _) .nil)), hg4.le, .inl ⟨he, [[]], rfl, by rw [← htot]; rfl, by simp, fun h => absurd rfl h⟩, rfl⟩
      · exact .cons (.nilSl 1 (c := .ro) trivial) .nil
      · intro e he; simp at he; subst he; rfl
    · have hpos : wh.length ≠ 0 := fun e => hw (List.eq_nil_of_length_eq_zero e)
      repeat' (first | refine S.nilK ?_ | (refine S.op rfl ?_; first | refine R.mv rfl ?_ | refine R.pickF rfl rfl ?_ | refine R.len rfl ?_ | ((first | refine S.eqInt rfl rfl ?_ ?_) <;> intro hlt <;> try (exfalso; omega))) | refine S.skip rfl ?_ | refine S.seq ?_ | refine S.region ?_ | refine S.condF rfl ?_ | refine RRun.skip ?_)
      all_goals
        apply S.ret rr23
        case hx => repeat (first | exact ResAt.nil | apply ResAt.tmp rfl)
        exact ⟨_, h, .tu (.cons (.nilSl 1 (c := .ro) trivial) (.cons (.refl _) .nil)), hle, .inl ⟨he, [], rfl, htot, by simp, by simp⟩, rfl⟩
  · have hgs := hgn
    · have hpos : gs.length ≠ 0 := fun e => hgs (List.eq_nil_of_length_eq_zero e)
      have hfin : RRunG Try.prog none 72 [.code .ret] (Env.get [(4, slAt bo 0 gs.length cap), (5, i64 0)]) h1 (FRes Try.prog Try.f23 (Weak fun x h' => GroupsR v wh l x ∧ h' = h)) := by
        refine RRun.freezeS (t := 4) (sz := 1) (es := (gcells gs cs).map fun a => [a]) (sp := sp) (by simp [gcells_len hcs]) rfl (by rw [flat_one]; exact hbo) (by intro e he; simp at he; obtain ⟨a, _, rfl⟩ := he; rfl) (by simp [gcells_len hcs]; omega) hcap ?_
        apply S.ret rr23
        case hx => repeat (first | exact ResAt.nil | apply ResAt.tmp rfl)
        refine ⟨_, h, .tu (.cons (.sl (es' := gs.map fun g => [rowsA g]) ?_ ?_ ?_) (.cons (.refl _) .nil)), hle.del h0o, .inl ⟨he, gs, rfl, htot, by omega, fun _ => hne⟩, rfl⟩
        · rw [flat_one]; exact ales_cells gs cs hcs
        · simp [gcells_len hcs]
        · intro e he; simp at he; obtain ⟨a, _, rfl⟩ := he; rfl
      repeat' (first | ((show RRunG _ _ _ (.code .ret :: _) _ _ _; exact S.keep [4, 5] rfl hfin)) | refine S.nilK ?_ | (refine S.op rfl ?_; first | refine R.mv rfl ?_ | refine R.pickT rfl rfl ?_ | refine R.pickF rfl rfl ?_ | refine R.len rfl ?_ | refine R.lenA rfl ?_ | ((first | refine S.eqInt rfl rfl ?_ ?_) <;> intro hlt <;> try (exfalso; omega))) | refine S.skip rfl ?_ | refine S.seq ?_ | refine S.region ?_ | refine S.condF rfl ?_ | refine RRun.skip ?_)
end Go.Proofs.Ythadifboeggnpaa

namespace Go.Proofs.Ythadifboeggnpaa
open Go.Av
abbrev countsA : AV := .sl 8 [[i64 20, str [], str [], i64 0, i64 0, i64 0, str [], exprs []]] .ro
def CountsR (v : Row → Row × Int) (wh : List Ex) (l : List Row) (x : AV) : Prop :=
  (errF v l = 0 ∧ ∃ gs, x = .tu [rowsA (gs.map fun g => [nV g.length]), i64 0] ∧ total gs = l.length ∧ gs.length ≤ l.length + 1 ∧ (wh ≠ [] → ∀ g ∈ gs, g ≠ [])) ∨ (errF v l ≠ 0 ∧ x = .tu [rowsA [], i64 (errF v l)])
theorem groupX_spec (a0 a1 : AV) (v : Row → Row × Int) (wh : List Ex) (l : List Row) (hl : l.length ≤ 100) (c23 : ∀ h, ACalls Try.prog 23 [a0, a1] h (fun x h' => GroupsR v wh l x ∧ h' = h)) (h : AHeap) :
    ACalls Try.prog 10 [a0, a1, countsA] h (fun x h' => CountsR v wh l x ∧ h' = h) := by
  obtain ⟨c', hc1, hc2⟩ := res10
  refine ACalls.weak (ACalls.enter Try.func10 hc1 Try.ntmps10 hc2 (Nat.le_of_ble_eq_true rfl) rfl ?_)
  repeat' (first | refine S.nilK ?_ | (refine S.op rfl ?_; first | refine R.mv rfl ?_) | refine S.seq ?_ | refine S.region ?_)
  refine S.op rfl (R.call rfl rfl ((c23 _).mono ?_))
  rintro x h1 ⟨hR, rfl⟩
  rcases hR with ⟨he, gs, rfl, htot, hgl, hne⟩ | ⟨he, rfl⟩
  · have hlen : (gs.map fun g => [rowsA g]).length = gs.length := by simp
    repeat' (first | refine S.nilK ?_ | (refine S.op rfl ?_; first | refine S.eqIntSame (a := 0) rfl rfl ?_ | refine R.mv rfl ?_ | refine R.len rfl ?_ | refine R.extract rfl rfl ?_) | refine S.seq ?_ | refine S.region ?_ | refine S.condF rfl ?_ | refine RRun.skip ?_ | refine RRun.block ?_)
    rw [hlen]
    refine RRun.loopIn (S.keep [2, 10, 27, 28, 29] rfl (RRun.envs (.cons 2 (.refl _) (.cons 10 (.nilSl 1 (c := .full) trivial) (.cons 27 (.refl _) (.cons 28 (.refl _) (.cons 29 (.refl _) .nil))))) (group_loop gs (by omega) h1 _ _ (fun c h2 hg => ?_) gs.length 0 .full h1 (by omega) (Grow.start h1))))
    repeat' (first | refine S.nilK ?_ | (refine S.op rfl ?_; first | refine R.mv rfl ?_) | refine S.seq ?_ | refine S.region ?_)
    apply S.ret rr10
    case hx => repeat (first | exact ResAt.nil | apply ResAt.tmp rfl)
    exact ⟨_, h1, .tu (.cons (.toRo _ _ _) (.cons (.refl _) .nil)), hg.le, .inl ⟨he, gs, rfl, htot, hgl, hne⟩, rfl⟩
  · repeat' (first | refine S.nilK ?_ | (refine S.op rfl ?_; first | refine R.mv rfl ?_ | refine R.extract rfl rfl ?_ | ((first | refine S.eqInt rfl rfl ?_ ?_) <;> intro hlt <;> try (exfalso; omega))) | refine S.seq ?_ | refine S.region ?_ | refine S.condT rfl ?_)
    apply S.ret rr10
    case hx => repeat (first | exact ResAt.nil | apply ResAt.tmp rfl)
    exact ⟨_, h1, .tu (.cons (.nilSl 1 (c := .ro) trivial) (.cons (.refl _) .nil)), .refl _, .inr ⟨he, rfl⟩, rfl⟩
theorem evalN_len : ∀ (d : Nat) (e : Ex) (r : Row) (B : Nat), (∀ v ∈ r, v.s.length ≤ B) → (∀ (op : Int) (t nm : List UInt8) (n : Int) (v : Val) (a : List Ex), e = .mk op t nm n v a → v.s.length ≤ B) → (evalN d e r).1.s.length ≤ B
  | 0, _, _, _, _, _ => by simp [evalN]
  | d + 1, .mk op t nm n v args, r, B, hr, hv => by
    have hv' := hv op t nm n v args rfl
    have hz : vz.s.length ≤ B := by simp
    have ht : ∀ b, (truth b).s.length ≤ B := fun b => by simp [truth]
    have hi : ∀ {p : Prop} [Decidable p] {a b : Val}, a.s.length ≤ B → b.s.length ≤ B → (if p then a else b).s.length ≤ B := fun {p} _ {a b} h1 h2 => by
      by_cases h : p
      · rw [if_pos h]; exact h1
      · rw [if_neg h]; exact h2
    have hip : ∀ {p : Prop} [Decidable p] {a b : Val × Int}, a.1.s.length ≤ B → b.1.s.length ≤ B → (if p then a else b).1.s.length ≤ B := fun {p} _ {a b} h1 h2 => by
      by_cases h : p
      · rw [if_pos h]; exact h1
      · rw [if_neg h]; exact h2
    have hap : ∀ op a b, (applyF op a b).1.s.length ≤ B := fun op a b => hip (hip hz (ht _)) (hip (hi (ht _) (hi hz (ht _))) (hip hz (hip (by simp) (hip hz hz))))
    have hfin : ∀ op a b, (finishF op a b).1.s.length ≤ B := fun op a b => hip (ht _) (hip (hi hz (ht _)) (hap _ _ _))
    have harg : ∀ f, (evalArgs f op args).1.s.length ≤ B := fun f => by
      unfold evalArgs
      split
      · exact hip (hfin _ _ _) hz
      · exact hip (hip (hfin _ _ _) hz) hz
      · exact hz
    rw [evalN]
    refine hip hz (hip hv' (hip (hip hz ?_) (harg _)))
    cases hx : r[n.toNat]? with
    | none => exact hz
    | some x => exact hr x (List.mem_of_getElem? hx)
theorem valsF_len {f : Ex → Val × Int} {B : Nat} : ∀ (l : List Ex) (acc : Row), (∀ e ∈ l, (f e).1.s.length ≤ B) → (∀ v ∈ acc, v.s.length ≤ B) → (valsF f l acc).1.length ≤ acc.length + l.length ∧ ∀ v ∈ (valsF f l acc).1, v.s.length ≤ B
  | [], acc, _, ha => by simp [valsF]; exact ha
  | e :: l, acc, hl, ha => by
    rw [valsF]
    split
    · have := valsF_len (f := f) (B := B) l (acc ++ [(f e).1]) (fun x hx => hl x (List.mem_cons_of_mem _ hx)) (fun v hv => by
        rcases List.mem_append.1 hv with h | h
        · exact ha v h
        · rw [List.mem_singleton] at h; rw [h]; exact hl e (List.mem_cons_self ..))
      refine ⟨?_, this.2⟩
      have h1 := this.1
      simp at h1 ⊢
      omega
    · simp
end Go.Proofs.Ythadifboeggnpaa

namespace Go.Proofs.Ythadifboeggnpaa
open Go.Av
def Ex.short : Ex → Prop
  | .mk _ t nm _ v _ => t.length ≤ 140737488355328 ∧ nm.length ≤ 140737488355328 ∧ v.s.length ≤ 140737488355328
theorem light_short {d : Nat} {op : Int} {t nm : List UInt8} {n : Int} {v : Val} {args : List Ex} (h : lightN (d + 1) (.mk op t nm n v args) = true) (hs : (Ex.mk op t nm n v args).short) : v.s.length ≤ 200 := by
  simp only [lightN, Bool.and_eq_true, decide_eq_true_eq] at h
  obtain ⟨h1, h2, h3⟩ := hs
  have h4 := h.1.2
  rw [wrap_i64 (n := (nm.length : Int) + t.length) (by omega) (by omega), wrap_i64 (by omega) (by omega)] at h4
  omega
def upto (gs : List (List Row)) (i : Nat) : Nat := total (gs.take i)
theorem upto_succ {gs : List (List Row)} {i : Nat} (h : i < gs.length) : upto gs (i + 1) = upto gs i + gs[i].length := by
  unfold upto total
  rw [List.take_add_one, List.getElem?_eq_getElem h, Option.toList_some, List.map_append, List.sum_append]
  simp
theorem upto_le (gs : List (List Row)) (i : Nat) : upto gs i ≤ total gs := by
  have : total gs = upto gs i + total (gs.drop i) := by
    unfold upto total
    conv => lhs; rw [← List.take_append_drop i gs]
    rw [List.map_append, List.sum_append]
  omega
def r3l0 : RCode :=
  (.seq (.region [
    ⟨(some 44), none, .act, .bin .lss (.tmp 43) (.tmp 42)⟩])
  (.seq (.cond (.tmp 44)
   .skip
   (.exit 0))
  (.seq (.block 1
   (.seq (.region [
     ⟨(some 45), none, .act, .indexAddr 1 (.tmp 41) (.tmp 43)⟩,
     ⟨(some 46), none, .act, .load false 1 (.tmp 45)⟩,
     ⟨(some 11), none, .act, .mv (.tmp 46)⟩])
   (.seq (.seq (.region [
     ⟨(some 47), none, .act, .mv (.tmp 11)⟩,
     ⟨(some 48), none, .act, .len (.tmp 47)⟩,
     ⟨(some 49), none, .act, .eq true .int (.tmp 48) (.const (.int .i64 1))⟩,
     ⟨(some 50), none, .act, .mv (.tmp 49)⟩,
     ⟨(some 51), (some (50, false)), .act, .mv (.tmp 11)⟩,
     ⟨(some 52), (some (50, false)), .act, .indexAddr 3 (.tmp 51) (.const (.int .i64 0))⟩,
     ⟨(some 53), (some (50, false)), .act, .fieldAddr 1 (.tmp 52)⟩,
     ⟨(some 54), (some (50, false)), .act, .load false 1 (.tmp 53)⟩,
     ⟨(some 55), (some (50, false)), .act, .bin .lss (.tmp 54) (.const (.int .i64 1))⟩,
     ⟨(some 56), (some (50, false)), .act, .mv (.tmp 55)⟩,
     ⟨(some 57), (some (56, true)), .act, .mv (.tmp 1)⟩,
     ⟨(some 58), (some (56, true)), .act, .len (.tmp 57)⟩,
     ⟨(some 59), (some (56, true)), .act, .bin .gtr (.tmp 58) (.const (.int .i64 0))⟩,
     ⟨(some 60), (some (50, false)), .act, .pick (.tmp 56) (.tmp 59) (.const (.bool false))⟩,
     ⟨(some 61), none, .act, .pick (.tmp 50) (.const (.bool true)) (.tmp 60)⟩])
   (.cond (.tmp 61)
    (.seq (.region [
      ⟨(some 4), none, .act, .mv (.const (.bool false))⟩])
    .ret)
    .skip))
   (.region [
     ⟨(some 62), none, .act, .mv (.tmp 9)⟩,
     ⟨(some 63), none, .act, .mv (.tmp 11)⟩,
     ⟨(some 64), none, .act, .indexAddr 3 (.tmp 63) (.const (.int .i64 0))⟩,
     ⟨(some 65), none, .act, .fieldAddr 1 (.tmp 64)⟩,
     ⟨(some 66), none, .act, .load false 1 (.tmp 65)⟩,
     ⟨(some 67), none, .act, .bin .add (.tmp 62) (.tmp 66)⟩,
     ⟨(some 9), none, .act, .mv (.tmp 67)⟩]))))
  (.region [
    ⟨(some 68), none, .act, .bin .add (.tmp 43) (.const (.int .i64 1))⟩,
    ⟨(some 43), none, .act, .mv (.tmp 68)⟩]))))
def r3 : RCode :=
  (.seq (.region [
    ⟨(some 4), none, .act, .mv (.const (.bool false))⟩])
  (.seq (.seq (.region [
    ⟨(some 12), none, .act, .call 7 []⟩,
    ⟨(some 13), none, .act, .un .not (.tmp 12)⟩])
  (.cond (.tmp 13)
   (.seq (.region [
     ⟨(some 4), none, .act, .mv (.const (.bool false))⟩])
   .ret)
   .skip))
  (.seq (.seq (.region [
    ⟨(some 14), none, .act, .mv (.tmp 0)⟩,
    ⟨(some 15), none, .act, .call 8 [(.tmp 14)]⟩,
    ⟨(some 16), none, .act, .un .not (.tmp 15)⟩,
    ⟨(some 17), none, .act, .mv (.tmp 16)⟩,
    ⟨(some 18), (some (17, false)), .act, .mv (.tmp 1)⟩,
    ⟨(some 19), (some (17, false)), .act, .call 9 [(.tmp 18)]⟩,
    ⟨(some 20), (some (17, false)), .act, .un .not (.tmp 19)⟩,
    ⟨(some 21), none, .act, .pick (.tmp 17) (.const (.bool true)) (.tmp 20)⟩])
  (.cond (.tmp 21)
   (.seq (.region [
     ⟨(some 4), none, .act, .mv (.const (.bool true))⟩])
   .ret)
   .skip))
  (.seq (.region [
    ⟨(some 23), none, .act, .mv (.tmp 0)⟩,
    ⟨(some 24), none, .act, .mv (.tmp 1)⟩,
    ⟨(some 25), none, .act, .build [(.int .i64 0), (.string ⟨#[]⟩), (.string ⟨#[]⟩), (.int .i64 0), (.int .i64 0), (.int .i64 0), (.string ⟨#[]⟩), (.slice none 0 0)] [(0, 1, (.const (.int .i64 20)))]⟩,
    ⟨(some 26), none, .act, .buildSl 8 [(.int .i64 0), (.string ⟨#[]⟩), (.string ⟨#[]⟩), (.int .i64 0), (.int .i64 0), (.int .i64 0), (.string ⟨#[]⟩), (.slice none 0 0)] 1 [(0, (.tmp 25))]⟩,
    ⟨(some 27), none, .act, .call 10 [(.tmp 23), (.tmp 24), (.tmp 26)]⟩,
    ⟨(some 22), none, .act, .mv (.tmp 27)⟩,
    ⟨(some 28), none, .act, .extract (.tmp 22) 0⟩,
    ⟨(some 29), none, .act, .extract (.tmp 22) 1⟩,
    ⟨(some 5), none, .act, .mv (.tmp 28)⟩,
    ⟨(some 6), none, .act, .mv (.tmp 29)⟩])
  (.seq (.region [
    ⟨(some 31), none, .act, .mv (.tmp 0)⟩,
    ⟨(some 32), none, .act, .mv (.tmp 1)⟩,
    ⟨(some 33), none, .act, .call 11 [(.tmp 31), (.tmp 32)]⟩,
    ⟨(some 30), none, .act, .mv (.tmp 33)⟩,
    ⟨(some 34), none, .act, .extract (.tmp 30) 0⟩,
    ⟨(some 35), none, .act, .extract (.tmp 30) 1⟩,
    ⟨(some 7), none, .act, .mv (.tmp 34)⟩,
    ⟨(some 8), none, .act, .mv (.tmp 35)⟩])
  (.seq (.seq (.region [
    ⟨(some 36), none, .act, .mv (.tmp 6)⟩,
    ⟨(some 37), none, .act, .eq true .int (.tmp 36) (.const (.int .i64 0))⟩])
  (.cond (.tmp 37)
   (.seq (.region [
     ⟨(some 38), none, .act, .mv (.tmp 6)⟩,
     ⟨(some 39), none, .act, .mv (.tmp 8)⟩,
     ⟨(some 40), none, .act, .eq false .int (.tmp 38) (.tmp 39)⟩,
     ⟨(some 4), none, .act, .mv (.tmp 40)⟩])
   .ret)
   .skip))
  (.seq (.region [
    ⟨(some 9), none, .act, .mv (.const (.int .i64 0))⟩])
  (.seq (.seq (.region [
    ⟨(some 41), none, .act, .mv (.tmp 5)⟩,
    ⟨(some 42), none, .act, .len (.tmp 41)⟩,
    ⟨(some 43), none, .act, .mv (.const (.int .i64 0))⟩])
  (.block 0
   (.loop r3l0)))
  (.seq (.region [
    ⟨(some 69), none, .act, .mv (.tmp 9)⟩,
    ⟨(some 70), none, .act, .mv (.tmp 0)⟩,
    ⟨(some 71), none, .act, .len (.tmp 70)⟩,
    ⟨(some 72), none, .act, .eq false .int (.tmp 69) (.tmp 71)⟩,
    ⟨(some 4), none, .act, .mv (.tmp 72)⟩])
  .ret)))))))))
theorem res3 : ∃ c, Try.f3.body = some c ∧ resCode Try.prog 73 c = some r3 := ⟨_, rfl, by kernel_rfl⟩
theorem rr3 : resRes Try.prog Try.f3.results.toList = some [.tmp 4] := by kernel_rfl
theorem counts_loop (gs : List (List Row)) (hgs : gs.length ≤ 1000) (wh : List Ex) (hne : wh.length = 0 ∨ ∀ g ∈ gs, 1 ≤ g.length) (x0 : AV) (htot : total gs ≤ 1000) (h : AHeap) (k : List RT) (Q : AV → AHeap → Prop)
    (hk : RRun Try.prog Try.f3 73 k (Env.get [(0, x0), (9, i64 (total gs))]) h Q) : ∀ (m i : Nat), i + m = gs.length →
    RRun Try.prog Try.f3 73 (.inLoop r3l0 :: .inBlock 0 :: k) (Env.get [(0, x0), (1, exprs wh), (9, i64 (upto gs i)), (41, rowsA (gs.map fun g => [nV g.length])), (42, i64 gs.length), (43, i64 i)]) h Q := by
  intro m
  induction m with
  | zero =>
    intro i hi
    have e : upto gs i = total gs := by unfold upto; rw [List.take_of_length_le (by omega)]
    rw [e]
    refine RRun.inLoop ?_
    repeat' (first | refine S.nilK ?_ | (refine S.op rfl ?_; first | ((first | refine S.lss rfl rfl ?_ ?_) <;> intro hlt <;> try (exfalso; omega))) | refine S.seq ?_ | refine S.region ?_ | refine S.condF rfl ?_ | refine RRun.exit rfl ?_)
    exact S.keep [0, 9] rfl hk
  | succ m ih =>
    intro i hi
    have hie : i < gs.length := by omega
    have h1 : ((gs.map fun g => [nV g.length]).map fun r => [rowA r])[((i : Nat) : Int).toNat]? = some [rowA [nV gs[i].length]] := by simp [hie]
    have hni : wh.length = 0 ∨ 1 ≤ gs[i].length := hne.imp id fun h => h _ (List.getElem_mem hie)
    have hsu := upto_succ hie
    have hle := upto_le gs (i + 1)
    have ih2 := ih (i + 1) (by omega)
    rw [hsu] at ih2 hle
    generalize gs[i].length = n at h1 hni ih2 hle
    have h2 : (([nV n] : Row).map Val.cells)[(0 : Int).toNat]? = some [i64 1, i64 n, str []] := rfl
    have hlen1 : (([nV n] : Row).map Val.cells).length = 1 := rfl
    have hlenw : (wh.map Ex.cells).length = wh.length := by simp
    refine RRun.inLoop ?_
    repeat' (first | refine S.nilK ?_ | (refine S.op rfl ?_; first | refine R.indexAddr rfl rfl (by omega) h1 ?_ | refine R.indexAddr rfl rfl (by omega) h2 ?_ | refine R.mv rfl ?_ | refine R.fieldAddrR rfl ?_ | refine R.loadR rfl rfl ?_ | refine S.addI rfl rfl (by omega) ?_ | refine R.pickT rfl rfl ?_ | refine R.pickF rfl rfl ?_ | refine R.len rfl ?_ | ((first | refine S.lss rfl rfl ?_ ?_ | refine S.gtr rfl rfl ?_ ?_ | refine S.eqInt rfl rfl ?_ ?_) <;> intro hlt <;> try (exfalso; omega))) | refine S.skip rfl ?_ | refine S.seq ?_ | refine S.region ?_ | refine S.condT rfl ?_ | refine S.condF rfl ?_ | refine RRun.skip ?_ | refine RRun.block ?_ | refine RRun.inBlock ?_)
    all_goals
      rw [show ((i : Int) + 1) = ((i + 1 : Nat) : Int) by omega, show ((upto gs i : Int) + n) = ((upto gs i + n : Nat) : Int) by omega]
      exact S.keep [0, 1, 9, 41, 42, 43] rfl ih2
theorem relCounts_spec (l : List Row) (wh : List Ex) (hl : l.length ≤ 9223372036854775807) (hr : ∀ r ∈ l, r.length ≤ 9223372036854775807 ∧ ∀ v ∈ r, v.ok) (hw : wh.length ≤ 9223372036854775807) (hwo : ∀ e ∈ wh, e.ok) (hws : ∀ e ∈ wh, e.short) (h : AHeap) :
    ACalls Try.prog 3 [rowsA l, exprs wh] h (fun x h' => x = bl true ∧ h' = h) := by
  have c8 := fun h => rows_spec l hl (fun r hr' => (hr r hr').1) h
  have c9 := fun h => exprs_spec wh hw hwo h
  obtain ⟨c', hc1, hc2⟩ := res3
  refine ACalls.weak (ACalls.enter Try.func3 hc1 Try.ntmps3 hc2 (Nat.le_of_ble_eq_true rfl) rfl ?_)
  cases h1 : fewRows l with
  | false =>
    rw [h1] at c8
    repeat' (first | refine S.nilK ?_ | (refine S.op rfl ?_; first | refine callS rfl rfl (awake_spec _) ?_ | refine callS rfl rfl (c8 _) ?_ | refine R.mv rfl ?_ | refine R.pickT rfl rfl ?_ | refine R.not rfl ?_) | refine S.skip rfl ?_ | refine S.seq ?_ | refine S.region ?_ | refine S.condT rfl ?_ | refine S.condF rfl ?_ | refine RRun.skip ?_)
    apply S.ret rr3
    case hx => repeat (first | exact ResAt.nil | apply ResAt.tmp rfl)
    exact ⟨_, h, .refl _, (by repeat (first | exact AHeap.le.refl _)), rfl, rfl⟩
  | true =>
  rw [h1] at c8
  cases h2 : lights wh with
  | false =>
    rw [h2] at c9
    repeat' (first | refine S.nilK ?_ | (refine S.op rfl ?_; first | refine callS rfl rfl (awake_spec _) ?_ | refine callS rfl rfl (c8 _) ?_ | refine callS rfl rfl (c9 _) ?_ | refine R.mv rfl ?_ | refine R.pickF rfl rfl ?_ | refine R.not rfl ?_) | refine S.seq ?_ | refine S.region ?_ | refine S.condT rfl ?_ | refine S.condF rfl ?_ | refine RRun.skip ?_)
    apply S.ret rr3
    case hx => repeat (first | exact ResAt.nil | apply ResAt.tmp rfl)
    exact ⟨_, h, .refl _, (by repeat (first | exact AHeap.le.refl _)), rfl, rfl⟩
  | true =>
  rw [h2] at c9
  simp only [fewRows, lights, few, Bool.and_eq_true, decide_eq_true_eq, List.all_eq_true] at h1 h2
  have hlenl : (l.map fun r => [rowA r]).length = l.length := by simp
  have c25 : ∀ r ∈ l, ∀ h, ACalls Try.prog 25 [exprs wh, rowA r] h (fun x h' => x = rowP (valsF (fun e => evalN 8 e r) wh []) ∧ h' = h) := fun r hr' h =>
    values_spec (fun e => evalN 8 e r) wh (by omega) r (fun e he h => eval_spec 8 e (hwo e he) (h2.1 e he) r (hr r hr').1 (hr r hr').2 h) h
  have hvl : ∀ r ∈ l, (valsF (fun e => evalN 8 e r) wh []).1.length ≤ 10 ∧ ∀ x ∈ (valsF (fun e => evalN 8 e r) wh []).1, x.s.length ≤ 100000 := fun r hr' => by
    have := valsF_len (f := fun e => evalN 8 e r) (B := 100000) wh [] (fun e he => evalN_len 8 e r 100000 (fun v hv => by have := (h1.1 r hr').1 v hv; omega) (fun op t nm n v a e' => by
      have hs := hws e he
      have hli := h2.1 e he
      rw [e'] at hs hli
      have := light_short hli hs
      omega)) (by simp)
    refine ⟨?_, this.2⟩
    have h3 := this.1
    simp at h3
    omega
  have c23 := fun h => groups_spec (fun r => valsF (fun e => evalN 8 e r) wh []) wh l (by omega) (by omega) hvl c25 h
  have c10 : ∀ h, ACalls Try.prog 10 [rowsA l, exprs wh, .sl 8 [[i64 20, str [], str [], i64 0, i64 0, i64 0, str [], .v (.slice none 0 0)]] .full] h (fun x h' => CountsR (fun r => valsF (fun e => evalN 8 e r) wh []) wh l x ∧ h' = h) := fun h =>
    ACalls.args (groupX_spec _ _ _ wh l (by omega) c23 h) (.cons (.refl _) (.cons (.refl _) (.cons (.trans (.sl (es' := [[i64 20, str [], str [], i64 0, i64 0, i64 0, str [], exprs []]]) (.cons (.refl _) (.cons (.refl _) (.cons (.refl _) (.cons (.refl _) (.cons (.refl _) (.cons (.refl _) (.cons (.refl _) (.cons (.nilSl 8 (c := .ro) trivial) .nil)))))))) rfl (by intro e he; simp at he; subst he; rfl)) (.toRo _ _ _)) .nil)))
  have c11 := fun h => project_spec (fun r => valsF (fun e => evalN 8 e r) wh []) wh l (by omega) c25 h
  generalize (fun r => valsF (fun e => evalN 8 e r) wh []) = v at c10 c11
  repeat' (first | refine S.nilK ?_ | (refine S.op rfl ?_; first | refine callS rfl rfl (awake_spec _) ?_ | refine callS rfl rfl (c8 _) ?_ | refine callS rfl rfl (c9 _) ?_ | refine R.mv rfl ?_ | refine R.pickF rfl rfl ?_ | refine R.not rfl ?_ | refine R.build rfl rfl ?_ | refine R.buildSl rfl rfl rfl (by decide) ?_) | refine S.seq ?_ | refine S.region ?_ | refine S.condF rfl ?_ | refine RRun.skip ?_)
  refine S.op rfl (R.call rfl rfl ((c10 _).mono ?_))
  rintro x h3 ⟨hR, rfl⟩
  rcases hR with ⟨he, gs, rfl, htot, hgl, hne⟩ | ⟨he, rfl⟩
  · rw [he] at c11
    repeat' (first | refine S.nilK ?_ | (refine S.op rfl ?_; first | refine R.mv rfl ?_ | refine R.extract rfl rfl ?_) | refine S.seq ?_ | refine S.region ?_)
    refine S.op rfl (R.call rfl rfl ((c11 _).mono ?_))
    rintro _ h4 ⟨⟨out, rfl⟩, rfl⟩
    have hlen : ((gs.map fun g => [nV g.length]).map fun r => [rowA r]).length = gs.length := by simp
    repeat' (first | refine S.nilK ?_ | (refine S.op rfl ?_; first | refine S.eqIntSame (a := 0) rfl rfl ?_ | refine R.mv rfl ?_ | refine R.len rfl ?_ | refine R.extract rfl rfl ?_) | refine S.seq ?_ | refine S.region ?_ | refine S.condF rfl ?_ | refine RRun.skip ?_ | refine RRun.block ?_)
    rw [hlen]
    refine RRun.loopIn (S.keep [0, 1, 9, 41, 42, 43] rfl (counts_loop gs (by omega) wh ?_ _ (by omega) h4 _ _ ?_ gs.length 0 (by omega)))
    · by_cases hwn : wh = []
      · exact .inl (by rw [hwn]; rfl)
      · exact .inr fun g hg => by
          have := hne hwn g hg
          cases g with
          | nil => exact absurd rfl this
          | cons a b => simp
    · rw [htot]
      repeat' (first | refine S.nilK ?_ | (refine S.op rfl ?_; first | refine S.eqIntSame (a := (l.length : Int)) rfl (congrArg (fun n : Nat => some (i64 n)) hlenl) ?_ | refine R.mv rfl ?_ | refine R.len rfl ?_) | refine S.seq ?_ | refine S.region ?_)
      apply S.ret rr3
      case hx => repeat (first | exact ResAt.nil | apply ResAt.tmp rfl)
      exact ⟨_, h4, .refl _, (by repeat (first | exact AHeap.le.refl _)), rfl, rfl⟩
  · generalize errF v l = e at he c11
    repeat' (first | refine S.nilK ?_ | (refine S.op rfl ?_; first | refine R.mv rfl ?_ | refine R.extract rfl rfl ?_) | refine S.seq ?_ | refine S.region ?_)
    refine S.op rfl (R.call rfl rfl ((c11 _).mono ?_))
    rintro _ h4 ⟨⟨out, rfl⟩, rfl⟩
    repeat' (first | refine S.nilK ?_ | (refine S.op rfl ?_; first | refine S.eqIntSame (a := e) rfl rfl ?_ | refine R.mv rfl ?_ | refine R.extract rfl rfl ?_ | ((first | refine S.eqInt rfl rfl ?_ ?_) <;> intro hlt <;> try (exfalso; omega))) | refine S.seq ?_ | refine S.region ?_ | refine S.condT rfl ?_)
    apply S.ret rr3
    case hx => repeat (first | exact ResAt.nil | apply ResAt.tmp rfl)
    exact ⟨_, h4, .refl _, (by repeat (first | exact AHeap.le.refl _)), rfl, rfl⟩
end Go.Proofs.Ythadifboeggnpaa
