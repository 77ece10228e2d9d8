/-
  AdyaDeps answers true for every history
-/
import Derived.Test.YthfolomknkobkaaP37
import Derived.Test.YthfolomknkobkaaP31
import Derived.Test.YthfolomknkobkaaP27
import Derived.Test.YthfolomknkobkaaP32
set_option linter.unusedVariables false
set_option linter.unusedSimpArgs false
namespace Go.Proofs.Ythfolomknkobkaa
open Go.Av
open Go.Ad (Seen Span Run Dep ltT ltT_sw wrote order writes commit)
theorem callU {P : Program} {c : Cls} {E : AEnv} {h h1 : AHeap} {K : AV → AHeap → Prop} {f : FuncId} {args : List Operand} {al : List AV} (hc : c = .act) (ha : avs E args = some al) (H : ACalls P f al h (fun _ h' => h' = h1)) (hk : ∀ x, K x h1) : ROpS P c (.call f args) E h K :=
  R.call hc ha (H.mono fun x h' e => by subst e; exact hk x)
theorem RunsAt.get {h₀ h : AHeap} {d : List Run} {v : AV} (hr : RunsAt h₀ d v h) {x : Nat} {o : ABlk} (hx : h₀ x = some o) : h x = some o := by
  rcases hr with ⟨_, _, rfl⟩ | ⟨q, cap, sp, hq, _, rfl, _⟩
  · exact hx
  · unfold HR
    rw [AHeap.set_other _ _ (fun e => by subst e; rw [hq] at hx; cases hx)]
    exact hx
theorem RunsAt.base {h₀ h : AHeap} {d : List Run} {v : AV} (hr : RunsAt h₀ d v h) {b : Nat} (o : ABlk) (hb : h b = none) : RunsAt (h₀.set b o) d v (h.set b o) := by
  rcases hr with ⟨rfl, rfl, rfl⟩ | ⟨q, cap, sp, hq, rfl, rfl, r⟩
  · exact .inl ⟨rfl, rfl, rfl⟩
  · have hne : b ≠ q := fun e => by subst e; rw [HR_at] at hb; cases hb
    refine .inr ⟨q, cap, sp, ?_, rfl, ?_, r⟩
    · rw [AHeap.set_other _ _ (Ne.symm hne)]; exact hq
    · unfold HR; rw [AHeap.set_comm _ _ _ hne]
theorem RunsAt.drop {h₀ h : AHeap} {d : List Run} {v : AV} {b : Nat} {o : ABlk} (hb : h₀ b = none) (hr : RunsAt (h₀.set b o) d v h) : ∃ h', RunsAt h₀ d v h' ∧ h'.le h := by
  rcases hr with ⟨rfl, rfl, rfl⟩ | ⟨q, cap, sp, hq, rfl, rfl, r⟩
  · exact ⟨h₀, .inl ⟨rfl, rfl, rfl⟩, (AHeap.le.refl h₀).set _ hb⟩
  · have hq2 := AHeap.fresh_set hq
    refine ⟨HR h₀ q d sp, .inr ⟨q, cap, sp, hq2.2, rfl, rfl, r⟩, ?_⟩
    exact ((AHeap.le.refl h₀).set _ hb).both q _
def r26l0 : RCode :=
  (.seq (.region [
    ⟨(some 15), none, .act, .bin .lss (.tmp 14) (.tmp 13)⟩])
  (.seq (.cond (.tmp 15)
   .skip
   (.exit 0))
  (.seq (.block 1
   (.seq (.region [
     ⟨(some 16), none, .act, .indexAddr 8 (.tmp 12) (.tmp 14)⟩,
     ⟨(some 17), none, .act, .load true 8 (.tmp 16)⟩,
     ⟨(some 7), none, .act, .alloc [(.int .u64 0), (.int .i64 0), (.int .i64 0), (.int .u64 0), (.int .u64 0), (.slice none 0 0), (.slice none 0 0), (.slice none 0 0)]⟩,
     ⟨none, none, .act, .store 8 (.tmp 7) (.tmp 17)⟩])
   (.seq (.region [
     ⟨(some 18), none, .act, .fieldAddr 5 (.tmp 7)⟩,
     ⟨(some 19), none, .act, .load false 1 (.tmp 18)⟩,
     ⟨(some 20), none, .act, .makeFunc (.func 44) [] [(.tmp 3)]⟩,
     ⟨(some 21), none, .act, .call 43 [(.tmp 19), (.tmp 20)]⟩,
     ⟨(some 8), none, .act, .mv (.tmp 21)⟩])
   (.seq (.region [
     ⟨(some 22), none, .act, .fieldAddr 2 (.tmp 7)⟩,
     ⟨(some 23), none, .act, .load false 1 (.tmp 22)⟩,
     ⟨(some 24), none, .act, .eq false .int (.tmp 23) (.const (.int .i64 1))⟩,
     ⟨(some 25), none, .act, .mv (.tmp 24)⟩,
     ⟨(some 26), (some (25, true)), .act, .mv (.tmp 8)⟩,
     ⟨(some 27), none, .act, .pick (.tmp 25) (.tmp 26) (.const (.bool false))⟩])
   (.cond (.tmp 27)
    (.region [
      ⟨(some 28), none, .act, .mv (.tmp 5)⟩,
      ⟨(some 29), none, .act, .load true 8 (.tmp 7)⟩,
      ⟨(some 30), none, .act, .buildSl 8 [(.int .u64 0), (.int .i64 0), (.int .i64 0), (.int .u64 0), (.int .u64 0), (.slice none 0 0), (.slice none 0 0), (.slice none 0 0)] 1 [(0, (.tmp 29))]⟩,
      ⟨(some 31), none, .act, .append 8 112 [(.int .u64 0), (.int .i64 0), (.int .i64 0), (.int .u64 0), (.int .u64 0), (.slice none 0 0), (.slice none 0 0), (.slice none 0 0)] (.tmp 28) (.tmp 30)⟩,
      ⟨(some 5), none, .act, .mv (.tmp 31)⟩])
    .skip)))))
  (.region [
    ⟨(some 32), none, .act, .bin .add (.tmp 14) (.const (.int .i64 1))⟩,
    ⟨(some 14), none, .act, .mv (.tmp 32)⟩]))))
def r26l1 : RCode :=
  (.seq (.region [
    ⟨(some 38), none, .act, .bin .lss (.tmp 37) (.tmp 36)⟩])
  (.seq (.cond (.tmp 38)
   .skip
   (.exit 2))
  (.seq (.block 3
   (.seq (.region [
     ⟨(some 39), none, .act, .indexAddr 8 (.tmp 35) (.tmp 37)⟩,
     ⟨(some 40), none, .act, .load true 8 (.tmp 39)⟩,
     ⟨(some 11), none, .act, .alloc [(.int .u64 0), (.int .i64 0), (.int .i64 0), (.int .u64 0), (.int .u64 0), (.slice none 0 0), (.slice none 0 0), (.slice none 0 0)]⟩,
     ⟨none, none, .act, .store 8 (.tmp 11) (.tmp 40)⟩])
   (.region [
     ⟨(some 41), none, .act, .mv (.tmp 9)⟩,
     ⟨(some 42), none, .act, .fieldAddr 0 (.tmp 11)⟩,
     ⟨(some 43), none, .act, .load false 1 (.tmp 42)⟩,
     ⟨(some 44), none, .act, .buildSl 1 [(.int .u64 0)] 1 [(0, (.tmp 43))]⟩,
     ⟨(some 45), none, .act, .append 1 8 [(.int .u64 0)] (.tmp 41) (.tmp 44)⟩,
     ⟨(some 9), none, .act, .mv (.tmp 45)⟩])))
  (.region [
    ⟨(some 46), none, .act, .bin .add (.tmp 37) (.const (.int .i64 1))⟩,
    ⟨(some 37), none, .act, .mv (.tmp 46)⟩]))))
def r26 : RCode :=
  (.seq (.region [
    ⟨(some 3), none, .act, .box (.tmp 1)⟩,
    ⟨(some 4), none, .act, .mv (.const (.slice none 0 0))⟩])
  (.seq (.region [
    ⟨(some 5), none, .act, .mv (.const (.slice none 0 0))⟩])
  (.seq (.seq (.region [
    ⟨(some 12), none, .act, .mv (.tmp 0)⟩,
    ⟨(some 13), none, .act, .len (.tmp 12)⟩,
    ⟨(some 14), none, .act, .mv (.const (.int .i64 0))⟩])
  (.block 0
   (.loop r26l0)))
  (.seq (.region [
    ⟨(some 33), none, .act, .mv (.tmp 5)⟩,
    ⟨(some 34), none, .act, .call 45 [(.tmp 33), (.func 46)]⟩])
  (.seq (.region [
    ⟨(some 9), none, .act, .mv (.const (.slice none 0 0))⟩])
  (.seq (.seq (.region [
    ⟨(some 35), none, .act, .mv (.tmp 5)⟩,
    ⟨(some 36), none, .act, .len (.tmp 35)⟩,
    ⟨(some 37), none, .act, .mv (.const (.int .i64 0))⟩])
  (.block 2
   (.loop r26l1)))
  (.seq (.region [
    ⟨(some 47), none, .act, .mv (.tmp 9)⟩,
    ⟨(some 4), none, .act, .mv (.tmp 47)⟩])
  .ret)))))))
theorem res26 : ∃ c, Try.f26.body = some c ∧ resCode Try.prog 48 c = some r26 := ⟨_, rfl, by kernel_rfl⟩
theorem rr26 : resRes Try.prog Try.f26.results.toList = some [.tmp 4] := by kernel_rfl
theorem order_sel (l : List Run) (hl : l.length ≤ 39) (hk : ∀ r ∈ l, r.keys.length ≤ 1000000) (key : List UInt8) (kb : Nat) (h₁ : AHeap) (hkb : h₁ kb = some (.box [bys key])) (k : List RT) (Q : AV → AHeap → Prop)
    (H : ∀ v h, RunsAt h₁ (l.filter fun r => writes r key) v h → RRun Try.prog Try.f26 48 k (Env.get [(5, v)]) h Q) : ∀ (m i : Nat) (d : List Run) (v : AV) (h : AHeap), i + m = l.length → d.length ≤ i → d ++ (l.drop i).filter (fun r => writes r key) = l.filter (fun r => writes r key) → RunsAt h₁ d v h →
    RRun Try.prog Try.f26 48 (.inLoop r26l0 :: .inBlock 0 :: k) (Env.get [(3, ptr kb), (5, v), (12, runsA l), (13, i64 l.length), (14, i64 i)]) h Q := by
  intro m
  induction m with
  | zero =>
    intro i d v h hi hdl hd hr
    rw [List.drop_of_length_le (by omega), List.filter_nil, List.append_nil] at hd
    subst hd
    refine RRun.inLoop ?_
    repeat' (first | refine S.nilK ?_ | (refine S.op rfl ?_; first | ((first | refine S.lss rfl rfl ?_ ?_) <;> intro hlt <;> try (exfalso; omega))) | refine S.seq ?_ | refine S.region ?_ | refine S.condF rfl ?_ | refine RRun.exit rfl ?_)
    exact S.keep [5] rfl (H _ _ hr)
  | succ m ih =>
    intro i d v h hi hdl hd hr
    have hie : i < l.length := by omega
    have h1 : (l.map fun k => runC k)[((i : Nat) : Int).toNat]? = some (runC l[i]) := by simp [hie]
    have hkl := hk l[i] (List.getElem_mem hie)
    rw [List.drop_eq_getElem_cons hie] at hd
    generalize l[i] = r at h1 hkl hd
    have hkb' := hr.get hkb
    have p44 : plainCallee Try.prog 44 = true := by kernel_rfl
    have cany := fun H (hH : H kb = some (.box [bys key])) => any43_spec r.keys hkl 44 [ptr kb] (fun k => decide (k = key)) p44 H (fun x _ => isKey_spec x key kb H hH)
    have hany : (r.keys.any fun k => decide (k = key)) = decide (key ∈ r.keys) := by
      rw [Bool.eq_iff_iff]
      simp only [List.any_eq_true, decide_eq_true_eq]
      exact ⟨fun ⟨x, hx, e⟩ => e ▸ hx, fun hx => ⟨key, hx, rfl⟩⟩
    have hw : writes r key = (decide (r.state = 1) && (r.keys.any fun k => decide (k = key))) := by rw [hany]; rfl
    rw [List.filter_cons, hw] at hd
    generalize (r.keys.any fun k => decide (k = key)) = bb at cany hd
    refine RRun.inLoop ?_
    by_cases hs : r.state = 1
    · cases bb with
      | true =>
        rw [decide_eq_true hs, Bool.true_and, if_pos rfl] at hd
        repeat' (first | refine S.nilK ?_ | (refine S.op rfl ?_; first | refine R.indexAddr rfl rfl (by omega) h1 ?_ | refine R.makeFuncA rfl rfl ?_ | refine R.callQ (by decide) rfl (cany _ (by (repeat' (first | assumption | refine AHeap.get_fresh ‹_› ?_)); first | done | fail)) ?_ | refine R.mv rfl ?_ | refine R.fieldAddr rfl ?_ | refine R.loadR rfl rfl ?_ | refine R.load (by decide) rfl (by (repeat' (first | exact AHeap.set_same _ _ _)); first | done | fail) rfl ?_ | refine R.pickT rfl rfl ?_ | refine R.alloc rfl (fun b hb => ?_) | refine R.buildSl rfl rfl rfl (by decide) ?_ | ((first | refine S.lss rfl rfl ?_ ?_ | refine S.eqInt rfl rfl ?_ ?_) <;> intro hlt <;> try (exfalso; omega))) | (refine S.op0 rfl ?_; first | refine S.storeS rfl rfl rfl (by rfl) rfl (by first | decide | exact Nat.le_refl _ | exact Nat.le_of_ble_eq_true rfl) ?_) | refine S.seq ?_ | refine S.region ?_ | refine S.condT rfl ?_ | refine RRun.skip ?_ | refine RRun.block ?_)
        all_goals first
          | (exfalso; omega)
          | skip
        have hb1 : h₁ b = none := by
          cases e : h₁ b with
          | none => rfl
          | some o => rw [hr.get e] at hb; cases hb
        refine S.op rfl (S.pushRun (y' := .sl 8 [runC r] .full) rfl (hr.base _ hb) rfl rfl (.sl _ _) (by omega) (fun v' h' hr' => ?_))
        obtain ⟨h2, r2, l2⟩ := hr'.drop hb1
        repeat' (first | refine S.nilK ?_ | (refine S.op rfl ?_; first | refine R.mv rfl ?_ | refine S.addI rfl rfl (by omega) ?_) | refine S.region ?_ | refine RRun.inBlock ?_)
        rw [show ((i : Int) + 1) = ((i + 1 : Nat) : Int) by omega]
        exact S.keep [3, 5, 12, 13, 14] rfl (S.drop l2 (ih (i + 1) (d ++ [r]) v' h2 (by omega) (by simp; omega) (by simpa using hd) r2))
      | false =>
        rw [Bool.and_false, if_neg (by decide)] at hd
        repeat' (first | refine S.nilK ?_ | (refine S.op rfl ?_; first | refine R.indexAddr rfl rfl (by omega) h1 ?_ | refine R.makeFuncA rfl rfl ?_ | refine R.callQ (by decide) rfl (cany _ (by (repeat' (first | assumption | refine AHeap.get_fresh ‹_› ?_)); first | done | fail)) ?_ | refine R.mv rfl ?_ | refine R.fieldAddr rfl ?_ | refine R.loadR rfl rfl ?_ | refine R.load (by decide) rfl (by (repeat' (first | exact AHeap.set_same _ _ _)); first | done | fail) rfl ?_ | refine S.addI rfl rfl (by omega) ?_ | refine R.pickT rfl rfl ?_ | refine R.alloc rfl (fun b hb => ?_) | ((first | refine S.lss rfl rfl ?_ ?_ | refine S.eqInt rfl rfl ?_ ?_) <;> intro hlt <;> try (exfalso; omega))) | (refine S.op0 rfl ?_; first | refine S.storeS rfl rfl rfl (by rfl) rfl (by first | decide | exact Nat.le_refl _ | exact Nat.le_of_ble_eq_true rfl) ?_) | refine S.seq ?_ | refine S.region ?_ | refine S.condT rfl ?_ | refine S.condF rfl ?_ | refine RRun.skip ?_ | refine RRun.block ?_ | refine RRun.inBlock ?_)
        all_goals first
          | (exfalso; omega)
          | skip
        rw [show ((i : Int) + 1) = ((i + 1 : Nat) : Int) by omega]
        exact S.keep [3, 5, 12, 13, 14] rfl (S.drop (by repeat (first | exact AHeap.le.refl _ | refine AHeap.le.set ?_ _ (by (repeat' (first | assumption)); first | done | fail))) (ih (i + 1) d v h (by omega) (by omega) hd hr))
    · rw [decide_eq_false hs, Bool.false_and, if_neg (by decide)] at hd
      repeat' (first | refine S.nilK ?_ | (refine S.op rfl ?_; first | refine R.indexAddr rfl rfl (by omega) h1 ?_ | refine R.makeFuncA rfl rfl ?_ | refine R.callQ (by decide) rfl (cany _ (by (repeat' (first | assumption | refine AHeap.get_fresh ‹_› ?_)); first | done | fail)) ?_ | refine R.mv rfl ?_ | refine R.fieldAddr rfl ?_ | refine R.loadR rfl rfl ?_ | refine R.load (by decide) rfl (by (repeat' (first | exact AHeap.set_same _ _ _)); first | done | fail) rfl ?_ | refine S.addI rfl rfl (by omega) ?_ | refine R.pickF rfl rfl ?_ | refine R.alloc rfl (fun b hb => ?_) | ((first | refine S.lss rfl rfl ?_ ?_ | refine S.eqInt rfl rfl ?_ ?_) <;> intro hlt <;> try (exfalso; omega))) | (refine S.op0 rfl ?_; first | refine S.storeS rfl rfl rfl (by rfl) rfl (by first | decide | exact Nat.le_refl _ | exact Nat.le_of_ble_eq_true rfl) ?_) | refine S.skip rfl ?_ | refine S.seq ?_ | refine S.region ?_ | refine S.condT rfl ?_ | refine S.condF rfl ?_ | refine RRun.skip ?_ | refine RRun.block ?_ | refine RRun.inBlock ?_)
      all_goals first
        | (exfalso; omega)
        | skip
      rw [show ((i : Int) + 1) = ((i + 1 : Nat) : Int) by omega]
      exact S.keep [3, 5, 12, 13, 14] rfl (S.drop (by repeat (first | exact AHeap.le.refl _ | refine AHeap.le.set ?_ _ (by (repeat' (first | assumption)); first | done | fail))) (ih (i + 1) d v h (by omega) (by omega) hd hr))
def numsA (l : List UInt64) : AV := .sl 1 (l.map fun n => [u64 n]) .ro
theorem order_nums (T : List Run) (n : Nat) (hn0 : n = T.length) (hS : n ≤ 39) (h₀ : AHeap) (k : List RT) (Q : AV → AHeap → Prop)
    (H : ∀ c h, Grow h₀ h c → RRun Try.prog Try.f26 48 k (Env.get [(9, .sl 1 ((T.map (·.txn)).map fun n => [u64 n]) c)]) h Q) : ∀ (m i : Nat) (ns : List UInt64) (c : Cap) (h : AHeap), i + m = n → ns.length = i → ns ++ (T.drop i).map (·.txn) = T.map (·.txn) → Grow h₀ h c →
    RRun Try.prog Try.f26 48 (.inLoop r26l1 :: .inBlock 2 :: k) (Env.get [(9, .sl 1 (ns.map fun n => [u64 n]) c), (35, runsA T), (36, i64 n), (37, i64 i)]) h Q := by
  intro m
  induction m with
  | zero =>
    intro i ns c h hi hl hn hg
    rw [List.drop_of_length_le (by omega), List.map_nil, List.append_nil] at hn
    subst hn
    refine RRun.inLoop ?_
    repeat' (first | refine S.nilK ?_ | (refine S.op rfl ?_; first | ((first | refine S.lss rfl rfl ?_ ?_) <;> intro hlt <;> try (exfalso; omega))) | refine S.seq ?_ | refine S.region ?_ | refine S.condF rfl ?_ | refine RRun.exit rfl ?_)
    exact S.keep [9] rfl (H c h hg)
  | succ m ih =>
    intro i ns c h hi hl hn hg
    have hie : i < T.length := by omega
    have h1 : (T.map fun k => runC k)[((i : Nat) : Int).toNat]? = some (runC T[i]) := by simp [hie]
    rw [List.drop_eq_getElem_cons hie] at hn
    generalize T[i] = r at h1 hn
    have hlen : (ns.map fun n => [u64 n]).length = ns.length := by simp
    refine RRun.inLoop ?_
    repeat' (first | refine S.nilK ?_ | (refine S.op rfl ?_; first | refine R.indexAddr rfl rfl (by omega) h1 ?_ | refine R.mv rfl ?_ | refine R.fieldAddr rfl ?_ | refine R.loadR rfl rfl ?_ | refine R.load (by decide) rfl (by (repeat' (first | exact AHeap.set_same _ _ _)); first | done | fail) rfl ?_ | refine R.alloc rfl (fun b hb => ?_) | refine R.buildSl rfl rfl rfl (by decide) ?_ | ((first | refine S.lss rfl rfl ?_ ?_) <;> intro hlt <;> try (exfalso; omega))) | (refine S.op0 rfl ?_; first | refine S.storeS rfl rfl rfl (by rfl) rfl (by first | decide | exact Nat.le_refl _ | exact Nat.le_of_ble_eq_true rfl) ?_) | refine S.seq ?_ | refine S.region ?_ | refine S.condT rfl ?_ | refine RRun.skip ?_ | refine RRun.block ?_)
    refine S.op rfl (S.appendG (ys := [[u64 r.txn]]) rfl (hg.base _ (by assumption)) rfl (.sl _ _) rfl (.sl _ _) (by intro e he a ha; simp only [List.mem_singleton] at he; subst he; simp only [List.mem_singleton] at ha; subst ha; rfl) (by rw [hlen]; simp; omega) (by rw [hlen]; simp; omega) (fun c' h' hg' hbox => ?_))
    repeat' (first | refine S.nilK ?_ | (refine S.op rfl ?_; first | refine R.mv rfl ?_ | refine S.addI rfl rfl (by omega) ?_) | refine S.region ?_ | refine RRun.inBlock ?_)
    rw [show (ns.map fun n => [u64 n]) ++ [[u64 r.txn]] = (ns ++ [r.txn]).map fun n => [u64 n] by simp, show ((i : Int) + 1) = ((i + 1 : Nat) : Int) by omega]
    exact S.keep [9, 35, 36, 37] rfl (ih (i + 1) _ _ _ (by omega) (by simp; omega) (by simpa using hn) hg')
theorem order_spec (l : List Run) (hl : l.length ≤ 39) (hk : ∀ r ∈ l, r.keys.length ≤ 1000000) (key : List UInt8) (h : AHeap) :
    ACalls Try.prog 26 [runsA l, bys key] h (fun x h' => x = numsA (order l key) ∧ h' = h) := by
  obtain ⟨c', hc1, hc2⟩ := res26
  refine ACalls.weak (ACalls.enter Try.func26 hc1 Try.ntmps26 hc2 (Nat.le_of_ble_eq_true rfl) rfl ?_)
  have hlen : (l.map fun k => runC k).length = l.length := by simp
  repeat' (first | refine S.nilK ?_ | (refine S.op rfl ?_; first | refine R.mv rfl ?_ | refine R.len rfl ?_ | refine R.box rfl rfl rfl (fun b hb => ?_)) | refine S.seq ?_ | refine S.region ?_ | refine RRun.block ?_)
  revert b hb
  intro kb hkb
  rw [hlen]
  refine RRun.loopIn (S.keep [3, 5, 12, 13, 14] rfl (order_sel l hl hk key kb _ (AHeap.set_same _ _ _) _ _ (fun v h1 hr => ?_) l.length 0 [] _ _ (by omega) (by simp) (by simp) (.inl ⟨rfl, rfl, rfl⟩)))
  have hfl : (l.filter fun r => writes r key).length ≤ 39 := Nat.le_trans (List.length_filter_le _ _) hl
  have hdef : order l key = (St.isort ltT (l.filter fun r => writes r key)).map (·.txn) := rfl
  rw [hdef]
  generalize (l.filter fun r => writes r key) = d at hr hfl
  have hlf : ALes [.v (.func (.func 46) #[] #[])] [cmpA] := .cons (fun st u hu => by cases hu; exact .fn _ _ _ #[] #[] .nil .nil) .nil
  rcases hr with ⟨rfl, rfl, rfl⟩ | ⟨q, cap, sp, hq0, rfl, rfl, hq1, hq2, hq3⟩
  · have c45 := fun F h => ssf_nil F h
    repeat' (first | (refine RRun.loopIn ?_) | (refine RRun.inLoop ?_) | refine S.nilK ?_ | (refine S.op rfl ?_; first | refine callU rfl rfl (c45 _ _) (fun _ => ?_) | refine R.mv rfl ?_ | refine R.lenA rfl ?_ | ((first | refine S.lss rfl rfl ?_ ?_) <;> intro hlt <;> try (exfalso; omega))) | refine S.seq ?_ | refine S.region ?_ | refine S.condF rfl ?_ | refine RRun.block ?_ | refine RRun.exit rfl ?_)
    apply S.ret rr26
    case hx => repeat (first | exact ResAt.nil | apply ResAt.tmp rfl)
    exact ⟨_, h, .nilSl 1 (c := .ro) trivial, (by repeat (first | exact AHeap.le.refl _ | refine AHeap.le.set ?_ _ (by (repeat' (first | assumption)); first | done | fail))), rfl, rfl⟩
  · have hne := AHeap.fresh_set hq0
    have c45 := ACalls.args (ssf_spec (h := h.set kb (.box [bys key])) (q := q) ⟨trivial⟩ d.length cap d sp hq3 rfl hfl) (.cons (.refl _) hlf)
    have hlen2 := St.isort_length ltT d
    repeat' (first | refine S.nilK ?_ | (refine S.op rfl ?_; first | refine callU rfl rfl c45 (fun _ => ?_) | refine R.mv rfl ?_ | refine R.lenA rfl ?_) | refine S.seq ?_ | refine S.region ?_ | refine RRun.block ?_)
    refine S.keep [37, 36, 35, 9] rfl ?_
    refine RRun.freezeS (t := 35) (es := (St.isort ltT d).map runC) (sp := sp) (by simp [hlen2]) rfl (HR_at _ _ _ _) (sz := 8) (fun e he => by obtain ⟨r, _, rfl⟩ := List.mem_map.1 he; rfl) (by simp only [List.length_map, hlen2]; omega) hq2 ?_
    refine RRun.loopIn (S.keep [9, 35, 36, 37] rfl (RRun.envs (.cons 9 (.nilSl 1 (c := .full) trivial) (.cons 35 (.refl _) (.cons 36 (.refl _) (.cons 37 (.refl _) .nil)))) (order_nums (St.isort ltT d) d.length hlen2.symm hfl h _ _ (fun c2 h2 hg2 => ?_) d.length 0 [] .full _ (by omega) rfl (by simp) (Grow.of_le ((((AHeap.le.refl h).set _ hkb).set _ hne.2).del hne.2)))))
    repeat' (first | refine S.nilK ?_ | (refine S.op rfl ?_; first | refine R.mv rfl ?_) | refine S.seq ?_ | refine S.region ?_)
    apply S.ret rr26
    case hx => repeat (first | exact ResAt.nil | apply ResAt.tmp rfl)
    exact ⟨_, h, .toRo _ _ _, hg2.le, rfl, rfl⟩
end Go.Proofs.Ythfolomknkobkaa

namespace Go.Proofs.Ythfolomknkobkaa
open Go.Av
open Go.Ad (Seen Span Run Dep findR comm commit readT inSpan spanned idx idx_find)
def zRun : Run := ⟨0, 0, 0, 0, 0, [], [], []⟩
def zRunA : List AV := [.v (.int .u64 0), .v (.int .i64 0), .v (.int .i64 0), .v (.int .u64 0), .v (.int .u64 0), .v (.slice none 0 0), .v (.slice none 0 0), .v (.slice none 0 0)]
theorem zRun_le : ALes zRunA (runC zRun) := .cons (.refl _) (.cons (.refl _) (.cons (.refl _) (.cons (.refl _) (.cons (.refl _) (.cons (.nilSl 1 (c := .ro) trivial) (.cons (.nilSl 4 (c := .ro) trivial) (.cons (.nilSl 2 (c := .ro) trivial) .nil)))))))
def findT (l : List Run) (t : UInt64) : Run × Bool := match findR l t with | some r => (r, true) | none => (zRun, false)
def commT (l : List Run) (t : UInt64) : Run × Bool := ((findT l t).1, (findT l t).2 && commit (findT l t).1)
abbrev foundA (p : Run × Bool) : AV := .tu [.ag (runC p.1), bl p.2]
theorem isRun_spec (r : Run) (t : UInt64) (b : Nat) (h : AHeap) (hb : h b = some (.box [u64 t])) : ACalls Try.prog 53 ([] ++ [.ag (runC r)] ++ [ptr b]) h (fun y h' => y = bl (decide (r.txn = t)) ∧ h' = h) := by
  obtain ⟨c, hc1, hc2⟩ := res53
  refine ACalls.weak (ACalls.enter Try.func53 hc1 Try.ntmps53 hc2 (Nat.le_of_ble_eq_true rfl) rfl ?_)
  repeat' (first | refine S.nilK ?_ | (refine S.op rfl ?_; first | refine R.mv rfl ?_ | refine R.fieldAddr rfl ?_ | refine R.load (by decide) rfl (by (repeat' (first | assumption | exact AHeap.set_same _ _ _ | refine AHeap.get_fresh ‹_› ?_)); first | done | fail) rfl ?_ | refine R.box rfl rfl rfl (fun b hb => ?_) | ((first | refine S.eqInt rfl rfl ?_ ?_) <;> intro hlt <;> try (exfalso; omega))) | refine S.seq ?_ | refine S.region ?_)
  all_goals
    apply S.ret rr53
    case hx => repeat (first | exact ResAt.nil | apply ResAt.tmp rfl)
    refine ⟨_, _, .refl _, (by repeat (first | exact AHeap.le.refl _ | refine AHeap.le.set ?_ _ (by (repeat' (first | assumption)); first | done | fail))), ?_, rfl⟩
    first
      | (rw [decide_eq_true (UInt64.toNat_inj.1 (by omega))]; rfl)
      | (rw [decide_eq_false (fun e => absurd (congrArg UInt64.toNat e) (by omega))]; rfl)
theorem find_spec (l : List Run) (hl : l.length ≤ 1000) (t : UInt64) (h : AHeap) : ACalls Try.prog 35 [runsA l, u64 t] h (fun x h' => x = foundA (findT l t) ∧ h' = h) := by
  have p53 : plainCallee Try.prog 53 = true := by kernel_rfl
  have c52 := fun H b (hH : H b = some (.box [u64 t])) => index52_spec l (by omega) 53 [ptr b] (fun r => decide (r.txn = t)) p53 H (fun x _ => isRun_spec x t b H hH)
  have hf : l.find? (fun r => decide (r.txn = t)) = findR l t := rfl
  rcases idx_find (p := fun r : Run => decide (r.txn = t)) (l := l) with ⟨h0, hi, he⟩ | ⟨h0, he⟩
  · have h1 : (l.map fun k => runC k)[(idx (fun r : Run => decide (r.txn = t)) l).toNat]? = some (runC l[(idx (fun r : Run => decide (r.txn = t)) l).toNat]) := by simp [hi]
    have hlen : (l.map fun k => runC k).length = l.length := by simp
    rw [hf] at he
    have hft : findT l t = (l[(idx (fun r : Run => decide (r.txn = t)) l).toNat], true) := by unfold findT; rw [he]
    rw [hft]
    generalize l[(idx (fun r : Run => decide (r.txn = t)) l).toNat] = r at h1
    generalize idx (fun r : Run => decide (r.txn = t)) l = i at c52 h0 hi h1
    obtain ⟨c, hc1, hc2⟩ := res35
    refine ACalls.weak (ACalls.enter Try.func35 hc1 Try.ntmps35 hc2 (Nat.le_of_ble_eq_true rfl) rfl ?_)
    repeat' (first | refine S.nilK ?_ | (refine S.op rfl ?_; first | refine R.makeFuncA rfl rfl ?_ | refine R.callQ (by decide) rfl (c52 _ _ (by (repeat' (first | exact AHeap.set_same _ _ _ | refine AHeap.get_fresh ‹_› ?_)); first | done | fail)) ?_ | refine R.indexAddr rfl rfl (by omega) h1 ?_ | refine R.mv rfl ?_ | refine R.loadR rfl rfl ?_ | refine R.alloc rfl (fun b hb => ?_) | refine R.box rfl rfl rfl (fun b hb => ?_) | ((first | refine S.lss rfl rfl ?_ ?_) <;> intro hlt <;> try (exfalso; omega))) | (refine S.op0 rfl ?_; first | refine S.storeS rfl rfl rfl (by rfl) rfl (by first | decide | exact Nat.le_refl _ | exact Nat.le_of_ble_eq_true rfl) ?_) | refine S.seq ?_ | refine S.region ?_ | refine S.condF rfl ?_ | refine RRun.skip ?_)
    apply S.ret rr35
    case hx => repeat (first | exact ResAt.nil | apply ResAt.tmp rfl | apply ResAt.cellA rfl (by (repeat' (first | exact AHeap.set_same _ _ _)); first | done | fail) (by rfl))
    exact ⟨_, h, .refl _, (by repeat (first | exact AHeap.le.refl _ | refine AHeap.le.set ?_ _ (by (repeat' (first | assumption | exact AHeap.z1 ‹_›)); first | done | fail))), rfl, rfl⟩
  · rw [hf] at he
    have hft : findT l t = (zRun, false) := by unfold findT; rw [he]
    rw [hft]
    rw [h0] at c52
    obtain ⟨c, hc1, hc2⟩ := res35
    refine ACalls.weak (ACalls.enter Try.func35 hc1 Try.ntmps35 hc2 (Nat.le_of_ble_eq_true rfl) rfl ?_)
    repeat' (first | refine S.nilK ?_ | (refine S.op rfl ?_; first | refine R.makeFuncA rfl rfl ?_ | refine R.callQ (by decide) rfl (c52 _ _ (by (repeat' (first | exact AHeap.set_same _ _ _ | refine AHeap.get_fresh ‹_› ?_)); first | done | fail)) ?_ | refine R.mv rfl ?_ | refine R.alloc rfl (fun b hb => ?_) | refine R.box rfl rfl rfl (fun b hb => ?_) | refine R.build rfl rfl ?_ | ((first | refine S.lss rfl rfl ?_ ?_) <;> intro hlt <;> try (exfalso; omega))) | (refine S.op0 rfl ?_; first | refine S.storeS rfl rfl rfl (by rfl) rfl (by first | decide | exact Nat.le_refl _ | exact Nat.le_of_ble_eq_true rfl) ?_) | refine S.seq ?_ | refine S.region ?_ | refine S.condT rfl ?_)
    apply S.ret rr35
    case hx => repeat (first | exact ResAt.nil | apply ResAt.tmp rfl | apply ResAt.cellA rfl (by (repeat' (first | exact AHeap.set_same _ _ _)); first | done | fail) (by rfl))
    exact ⟨_, h, .tu (.cons (.ag zRun_le) (.cons (.refl _) .nil)), (by repeat (first | exact AHeap.le.refl _ | refine AHeap.le.set ?_ _ (by (repeat' (first | assumption | exact AHeap.z1 ‹_›)); first | done | fail))), rfl, rfl⟩
theorem committed_spec (l : List Run) (hl : l.length ≤ 1000) (t : UInt64) (h : AHeap) : ACalls Try.prog 28 [runsA l, u64 t] h (fun x h' => x = foundA (commT l t) ∧ h' = h) := by
  have c35 := find_spec l hl t
  unfold commT
  generalize findT l t = p at c35
  obtain ⟨r, b⟩ := p
  replace c35 : ∀ h, ACalls Try.prog 35 [runsA l, u64 t] h (fun x h' => x = .tu [.ag (runC r), bl b] ∧ h' = h) := c35
  show ACalls Try.prog 28 [runsA l, u64 t] h (fun x h' => x = .tu [.ag (runC r), bl (b && commit r)] ∧ h' = h)
  have hcm : commit r = decide (r.state = 1) := rfl
  rw [hcm]
  obtain ⟨c, hc1, hc2⟩ := res28
  refine ACalls.weak (ACalls.enter Try.func28 hc1 Try.ntmps28 hc2 (Nat.le_of_ble_eq_true rfl) rfl ?_)
  by_cases hs : r.state = 1
  · rw [decide_eq_true hs]
    cases b with
    | true =>
      repeat' (first | refine S.nilK ?_ | (refine S.op rfl ?_; first | refine R.callQ (by decide) rfl (c35 _) ?_ | refine R.mv rfl ?_ | refine R.fieldAddr rfl ?_ | refine R.load (by decide) rfl (by (repeat' (first | exact AHeap.set_same _ _ _ | refine AHeap.so ?_ ?_ | exact AHeap.n1 ‹_›)); first | done | fail) rfl ?_ | refine R.pickT rfl rfl ?_ | refine R.extract rfl rfl ?_ | refine R.alloc rfl (fun b hb => ?_) | ((first | refine S.eqInt rfl rfl ?_ ?_) <;> intro hlt <;> try (exfalso; omega))) | (refine S.op0 rfl ?_; first | refine S.storeS rfl rfl rfl (by rfl) rfl (by first | decide | exact Nat.le_refl _ | exact Nat.le_of_ble_eq_true rfl) ?_ | refine S.store rfl rfl (by (repeat' (first | exact AHeap.set_same _ _ _ | refine AHeap.get_fresh ‹_› ?_)); first | done | fail) rfl rfl rfl (by rfl) rfl ?_) | refine S.seq ?_ | refine S.region ?_ | refine S.regionT ?_ | refine S.talt ?_ ?_ | exact S.tstop | refine S.tdone ?_)
      all_goals first
        | (exfalso; omega)
        | skip
      all_goals
        apply S.ret rr28
        case hx => repeat (first | exact ResAt.nil | apply ResAt.tmp rfl | apply ResAt.cellA rfl (by (repeat' (first | exact AHeap.set_same _ _ _)); first | done | fail) (by rfl))
        exact ⟨_, h, .refl _, (by repeat (first | exact AHeap.le.refl _ | refine AHeap.le.set ?_ _ (by (repeat' (first | assumption | exact AHeap.z1 ‹_›)); first | done | fail))), rfl, rfl⟩
    | false =>
      repeat' (first | refine S.nilK ?_ | (refine S.op rfl ?_; first | refine R.callQ (by decide) rfl (c35 _) ?_ | refine R.mv rfl ?_ | refine R.load (by decide) rfl (by (repeat' (first | exact AHeap.set_same _ _ _)); first | done | fail) rfl ?_ | refine R.pickF rfl rfl ?_ | refine R.extract rfl rfl ?_ | refine R.alloc rfl (fun b hb => ?_)) | (refine S.op0 rfl ?_; first | refine S.storeS rfl rfl rfl (by rfl) rfl (by first | decide | exact Nat.le_refl _ | exact Nat.le_of_ble_eq_true rfl) ?_ | refine S.store rfl rfl (by (repeat' (first | exact AHeap.set_same _ _ _ | refine AHeap.get_fresh ‹_› ?_)); first | done | fail) rfl rfl rfl (by rfl) rfl ?_) | refine S.skip rfl ?_ | refine S.seq ?_ | refine S.region ?_ | refine S.regionT ?_ | refine S.talt ?_ ?_ | exact S.tstop | refine S.tdone ?_)
      all_goals
        apply S.ret rr28
        case hx => repeat (first | exact ResAt.nil | apply ResAt.tmp rfl | apply ResAt.cellA rfl (by (repeat' (first | exact AHeap.set_same _ _ _)); first | done | fail) (by rfl))
        exact ⟨_, h, .refl _, (by repeat (first | exact AHeap.le.refl _ | refine AHeap.le.set ?_ _ (by (repeat' (first | assumption | exact AHeap.z1 ‹_›)); first | done | fail))), rfl, rfl⟩
  · rw [decide_eq_false hs]
    cases b with
    | true =>
      repeat' (first | refine S.nilK ?_ | (refine S.op rfl ?_; first | refine R.callQ (by decide) rfl (c35 _) ?_ | refine R.mv rfl ?_ | refine R.fieldAddr rfl ?_ | refine R.load (by decide) rfl (by (repeat' (first | exact AHeap.set_same _ _ _ | refine AHeap.so ?_ ?_ | exact AHeap.n1 ‹_›)); first | done | fail) rfl ?_ | refine R.pickT rfl rfl ?_ | refine R.extract rfl rfl ?_ | refine R.alloc rfl (fun b hb => ?_) | ((first | refine S.eqInt rfl rfl ?_ ?_) <;> intro hlt <;> try (exfalso; omega))) | (refine S.op0 rfl ?_; first | refine S.storeS rfl rfl rfl (by rfl) rfl (by first | decide | exact Nat.le_refl _ | exact Nat.le_of_ble_eq_true rfl) ?_ | refine S.store rfl rfl (by (repeat' (first | exact AHeap.set_same _ _ _ | refine AHeap.get_fresh ‹_› ?_)); first | done | fail) rfl rfl rfl (by rfl) rfl ?_) | refine S.seq ?_ | refine S.region ?_ | refine S.regionT ?_ | refine S.talt ?_ ?_ | exact S.tstop | refine S.tdone ?_)
      all_goals first
        | (exfalso; omega)
        | skip
      all_goals
        apply S.ret rr28
        case hx => repeat (first | exact ResAt.nil | apply ResAt.tmp rfl | apply ResAt.cellA rfl (by (repeat' (first | exact AHeap.set_same _ _ _)); first | done | fail) (by rfl))
        exact ⟨_, h, .refl _, (by repeat (first | exact AHeap.le.refl _ | refine AHeap.le.set ?_ _ (by (repeat' (first | assumption | exact AHeap.z1 ‹_›)); first | done | fail))), rfl, rfl⟩
    | false =>
      repeat' (first | refine S.nilK ?_ | (refine S.op rfl ?_; first | refine R.callQ (by decide) rfl (c35 _) ?_ | refine R.mv rfl ?_ | refine R.load (by decide) rfl (by (repeat' (first | exact AHeap.set_same _ _ _)); first | done | fail) rfl ?_ | refine R.pickF rfl rfl ?_ | refine R.extract rfl rfl ?_ | refine R.alloc rfl (fun b hb => ?_)) | (refine S.op0 rfl ?_; first | refine S.storeS rfl rfl rfl (by rfl) rfl (by first | decide | exact Nat.le_refl _ | exact Nat.le_of_ble_eq_true rfl) ?_ | refine S.store rfl rfl (by (repeat' (first | exact AHeap.set_same _ _ _ | refine AHeap.get_fresh ‹_› ?_)); first | done | fail) rfl rfl rfl (by rfl) rfl ?_) | refine S.skip rfl ?_ | refine S.seq ?_ | refine S.region ?_ | refine S.regionT ?_ | refine S.talt ?_ ?_ | exact S.tstop | refine S.tdone ?_)
      all_goals
        apply S.ret rr28
        case hx => repeat (first | exact ResAt.nil | apply ResAt.tmp rfl | apply ResAt.cellA rfl (by (repeat' (first | exact AHeap.set_same _ _ _)); first | done | fail) (by rfl))
        exact ⟨_, h, .refl _, (by repeat (first | exact AHeap.le.refl _ | refine AHeap.le.set ?_ _ (by (repeat' (first | assumption | exact AHeap.z1 ‹_›)); first | done | fail))), rfl, rfl⟩
def r66 : RCode :=
  (.seq (.region [
    ⟨(some 4), none, .act, .mv (.const (.int .i64 0))⟩])
  (.seq (.region [
    ⟨(some 5), none, .act, .mv (.tmp 0)⟩,
    ⟨(some 6), none, .act, .mv (.tmp 1)⟩,
    ⟨(some 7), none, .act, .cmpSl (.tmp 5) (.tmp 6)⟩,
    ⟨(some 4), none, .act, .mv (.tmp 7)⟩])
  .ret))
theorem res66 : ∃ c, Try.f66.body = some c ∧ resCode Try.prog 8 c = some r66 := ⟨_, rfl, by kernel_rfl⟩
theorem rr66 : resRes Try.prog Try.f66.results.toList = some [.tmp 4] := by kernel_rfl
theorem cmp_spec (a b : List UInt8) (h : AHeap) : ACalls Try.prog 66 [bys a, bys b] h (fun x h' => x = i64 (Lib.compareBytes a b) ∧ h' = h) := by
  obtain ⟨c, hc1, hc2⟩ := res66
  refine ACalls.weak (ACalls.enter Try.func66 hc1 Try.ntmps66 hc2 (Nat.le_of_ble_eq_true rfl) rfl ?_)
  repeat' (first | refine S.nilK ?_ | (refine S.op rfl ?_; first | refine R.cmpSl (a := a) (b := b) rfl rfl ?_ | refine R.mv rfl ?_) | refine S.seq ?_ | refine S.region ?_)
  apply S.ret rr66
  case hx => repeat (first | exact ResAt.nil | apply ResAt.tmp rfl)
  exact ⟨_, h, .refl _, (by repeat (first | exact AHeap.le.refl _)), rfl, rfl⟩
def r51 : RCode :=
  (.seq (.region [
    ⟨(some 6), none, .act, .mv (.const (.bool false))⟩])
  (.seq (.region [
    ⟨(some 7), none, .act, .mv (.tmp 0)⟩,
    ⟨(some 8), none, .act, .mv (.tmp 1)⟩,
    ⟨(some 9), none, .act, .call 66 [(.tmp 7), (.tmp 8)]⟩,
    ⟨(some 10), none, .act, .bin .geq (.tmp 9) (.const (.int .i64 0))⟩,
    ⟨(some 11), none, .act, .mv (.tmp 10)⟩,
    ⟨(some 12), (some (11, true)), .act, .mv (.tmp 2)⟩,
    ⟨(some 13), (some (11, true)), .act, .len (.tmp 12)⟩,
    ⟨(some 14), (some (11, true)), .act, .eq false .int (.tmp 13) (.const (.int .i64 0))⟩,
    ⟨(some 15), (some (11, true)), .act, .mv (.tmp 14)⟩,
    ⟨(some 16), (some (15, false)), .act, .mv (.tmp 0)⟩,
    ⟨(some 17), (some (15, false)), .act, .mv (.tmp 2)⟩,
    ⟨(some 18), (some (15, false)), .act, .call 66 [(.tmp 16), (.tmp 17)]⟩,
    ⟨(some 19), (some (15, false)), .act, .bin .lss (.tmp 18) (.const (.int .i64 0))⟩,
    ⟨(some 20), (some (11, true)), .act, .pick (.tmp 15) (.const (.bool true)) (.tmp 19)⟩,
    ⟨(some 21), none, .act, .pick (.tmp 11) (.tmp 20) (.const (.bool false))⟩,
    ⟨(some 6), none, .act, .mv (.tmp 21)⟩])
  .ret))
theorem res51 : ∃ c, Try.f51.body = some c ∧ resCode Try.prog 22 c = some r51 := ⟨_, rfl, by kernel_rfl⟩
theorem rr51 : resRes Try.prog Try.f51.results.toList = some [.tmp 6] := by kernel_rfl
theorem within_spec (k : List UInt8) (p : Span) (h : AHeap) : ACalls Try.prog 51 [bys k, bys p.lo, bys p.hi] h (fun x h' => x = bl (inSpan k p) ∧ h' = h) := by
  have c1 := cmp_spec k p.lo
  have c2 := cmp_spec k p.hi
  unfold inSpan
  have h2 := len_bytes p.hi
  have hz : decide (p.hi = []) = decide (p.hi.length = 0) := by
    cases p.hi <;> simp
  rw [hz]
  generalize Lib.compareBytes k p.lo = x at c1
  generalize Lib.compareBytes k p.hi = y at c2
  obtain ⟨c, hc1, hc2⟩ := res51
  refine ACalls.weak (ACalls.enter Try.func51 hc1 Try.ntmps51 hc2 (Nat.le_of_ble_eq_true rfl) rfl ?_)
  repeat' (first | refine S.nilK ?_ | (refine S.op rfl ?_; first | refine R.callQ (by decide) rfl (c1 _) ?_ | refine R.callQ (by decide) rfl (c2 _) ?_ | refine R.mv rfl ?_ | refine R.pickT rfl rfl ?_ | refine R.pickF rfl rfl ?_ | refine R.len rfl ?_ | ((first | refine S.lss rfl rfl ?_ ?_ | refine S.geq rfl rfl ?_ ?_ | refine S.eqInt rfl rfl ?_ ?_) <;> intro hlt <;> try (exfalso; omega))) | refine S.skip rfl ?_ | refine S.seq ?_ | refine S.region ?_)
  all_goals
    apply S.ret rr51
    case hx => repeat (first | exact ResAt.nil | apply ResAt.tmp rfl)
    refine ⟨_, h, .refl _, (by repeat (first | exact AHeap.le.refl _)), ?_, rfl⟩
    first
      | (rw [decide_eq_true (show 0 ≤ x by omega), decide_eq_true (show p.hi.length = 0 by omega)]; rfl)
      | (rw [decide_eq_true (show 0 ≤ x by omega), decide_eq_false (show ¬ p.hi.length = 0 by omega), decide_eq_true (show y < 0 by omega)]; rfl)
      | (rw [decide_eq_true (show 0 ≤ x by omega), decide_eq_false (show ¬ p.hi.length = 0 by omega), decide_eq_false (show ¬ y < 0 by omega)]; rfl)
      | (rw [decide_eq_false (show ¬ 0 ≤ x by omega)]; rfl)
def r50 : RCode :=
  (.seq (.region [
    ⟨(some 2), none, .act, .box (.tmp 0)⟩,
    ⟨(some 3), none, .act, .mv (.const (.bool false))⟩])
  (.seq (.region [
    ⟨(some 4), none, .act, .load false 1 (.tmp 1)⟩,
    ⟨(some 5), none, .act, .fieldAddr 0 (.tmp 2)⟩,
    ⟨(some 6), none, .act, .load false 1 (.tmp 5)⟩,
    ⟨(some 7), none, .act, .fieldAddr 1 (.tmp 2)⟩,
    ⟨(some 8), none, .act, .load false 1 (.tmp 7)⟩,
    ⟨(some 9), none, .act, .call 51 [(.tmp 4), (.tmp 6), (.tmp 8)]⟩,
    ⟨(some 3), none, .act, .mv (.tmp 9)⟩])
  .ret))
theorem res50 : ∃ c, Try.f50.body = some c ∧ resCode Try.prog 10 c = some r50 := ⟨_, rfl, by kernel_rfl⟩
theorem rr50 : resRes Try.prog Try.f50.results.toList = some [.tmp 3] := by kernel_rfl
theorem inSpan_spec (p : Span) (key : List UInt8) (b : Nat) (h : AHeap) (hb : h b = some (.box [bys key])) : ACalls Try.prog 50 ([] ++ [.ag (spanC p)] ++ [ptr b]) h (fun y h' => y = bl (inSpan key p) ∧ h' = h) := by
  have c1 := within_spec key p
  obtain ⟨c, hc1, hc2⟩ := res50
  refine ACalls.weak (ACalls.enter Try.func50 hc1 Try.ntmps50 hc2 (Nat.le_of_ble_eq_true rfl) rfl ?_)
  repeat' (first | refine S.nilK ?_ | (refine S.op rfl ?_; first | refine R.callQ (by decide) rfl (c1 _) ?_ | refine R.mv rfl ?_ | refine R.fieldAddr rfl ?_ | refine R.load (by decide) rfl (by (repeat' (first | assumption | exact AHeap.set_same _ _ _ | refine AHeap.get_fresh ‹_› ?_)); first | done | fail) rfl ?_ | refine R.box rfl rfl rfl (fun b hb => ?_)) | refine S.seq ?_ | refine S.region ?_)
  apply S.ret rr50
  case hx => repeat (first | exact ResAt.nil | apply ResAt.tmp rfl)
  exact ⟨_, h, .refl _, (by repeat (first | exact AHeap.le.refl _ | refine AHeap.le.set ?_ _ (by (repeat' (first | assumption)); first | done | fail))), rfl, rfl⟩
def r29 : RCode :=
  (.seq (.region [
    ⟨(some 2), none, .act, .box (.tmp 0)⟩,
    ⟨(some 3), none, .act, .box (.tmp 1)⟩,
    ⟨(some 4), none, .act, .mv (.const (.bool false))⟩])
  (.seq (.region [
    ⟨(some 5), none, .act, .fieldAddr 7 (.tmp 2)⟩,
    ⟨(some 6), none, .act, .load false 1 (.tmp 5)⟩,
    ⟨(some 7), none, .act, .makeFunc (.func 50) [] [(.tmp 3)]⟩,
    ⟨(some 8), none, .act, .call 49 [(.tmp 6), (.tmp 7)]⟩,
    ⟨(some 4), none, .act, .mv (.tmp 8)⟩])
  .ret))
theorem res29 : ∃ c, Try.f29.body = some c ∧ resCode Try.prog 9 c = some r29 := ⟨_, rfl, by kernel_rfl⟩
theorem rr29 : resRes Try.prog Try.f29.results.toList = some [.tmp 4] := by kernel_rfl
theorem spanned_spec (r : Run) (hr : r.spans.length ≤ 1000000) (key : List UInt8) (h : AHeap) : ACalls Try.prog 29 [.ag (runC r), bys key] h (fun y h' => y = bl (spanned r key) ∧ h' = h) := by
  have p50 : plainCallee Try.prog 50 = true := by kernel_rfl
  have c49 := fun H b (hH : H b = some (.box [bys key])) => any49_spec r.spans hr 50 [ptr b] (inSpan key) p50 H (fun x _ => inSpan_spec x key b H hH)
  unfold spanned
  generalize r.spans.any (inSpan key) = z at c49
  obtain ⟨c, hc1, hc2⟩ := res29
  refine ACalls.weak (ACalls.enter Try.func29 hc1 Try.ntmps29 hc2 (Nat.le_of_ble_eq_true rfl) rfl ?_)
  repeat' (first | refine S.nilK ?_ | (refine S.op rfl ?_; first | refine R.makeFuncA rfl rfl ?_ | refine R.callQ (by decide) rfl (c49 _ _ (by (repeat' (first | exact AHeap.set_same _ _ _)); first | done | fail)) ?_ | refine R.mv rfl ?_ | refine R.fieldAddr rfl ?_ | refine R.load (by decide) rfl (by (repeat' (first | exact AHeap.set_same _ _ _ | refine AHeap.get_fresh ‹_› ?_)); first | done | fail) rfl ?_ | refine R.box rfl rfl rfl (fun b hb => ?_)) | refine S.seq ?_ | refine S.region ?_)
  apply S.ret rr29
  case hx => repeat (first | exact ResAt.nil | apply ResAt.tmp rfl)
  exact ⟨_, h, .refl _, (by repeat (first | exact AHeap.le.refl _ | refine AHeap.le.set ?_ _ (by (repeat' (first | assumption | exact AHeap.z1 ‹_›)); first | done | fail))), rfl, rfl⟩
def r31l0 : RCode :=
  (.seq (.region [
    ⟨(some 12), none, .act, .bin .lss (.tmp 11) (.tmp 10)⟩])
  (.seq (.cond (.tmp 12)
   .skip
   (.exit 0))
  (.seq (.block 1
   (.seq (.region [
     ⟨(some 13), none, .act, .indexAddr 4 (.tmp 9) (.tmp 11)⟩,
     ⟨(some 14), none, .act, .load true 4 (.tmp 13)⟩,
     ⟨(some 7), none, .act, .alloc [(.slice none 0 0), (.int .u64 0), (.int .u64 0), (.slice none 0 0)]⟩,
     ⟨none, none, .act, .store 4 (.tmp 7) (.tmp 14)⟩])
   (.seq (.region [
     ⟨(some 15), none, .act, .fieldAddr 0 (.tmp 7)⟩,
     ⟨(some 16), none, .act, .load false 1 (.tmp 15)⟩,
     ⟨(some 17), none, .act, .mv (.tmp 1)⟩,
     ⟨(some 18), none, .act, .call 39 [(.tmp 16), (.tmp 17)]⟩])
   (.cond (.tmp 18)
    (.region [
      ⟨(some 19), none, .act, .mv (.tmp 5)⟩,
      ⟨(some 20), none, .act, .fieldAddr 1 (.tmp 7)⟩,
      ⟨(some 21), none, .act, .load false 1 (.tmp 20)⟩,
      ⟨(some 22), none, .act, .minmax true [(.tmp 19), (.tmp 21)]⟩,
      ⟨(some 5), none, .act, .mv (.tmp 22)⟩])
    .skip))))
  (.region [
    ⟨(some 23), none, .act, .bin .add (.tmp 11) (.const (.int .i64 1))⟩,
    ⟨(some 11), none, .act, .mv (.tmp 23)⟩]))))
def r31 : RCode :=
  (.seq (.region [
    ⟨(some 2), none, .act, .box (.tmp 0)⟩,
    ⟨(some 4), none, .act, .mv (.const (.int .u64 0))⟩])
  (.seq (.region [
    ⟨(some 5), none, .act, .mv (.const (.int .u64 0))⟩])
  (.seq (.seq (.region [
    ⟨(some 8), none, .act, .fieldAddr 6 (.tmp 2)⟩,
    ⟨(some 9), none, .act, .load false 1 (.tmp 8)⟩,
    ⟨(some 10), none, .act, .len (.tmp 9)⟩,
    ⟨(some 11), none, .act, .mv (.const (.int .i64 0))⟩])
  (.block 0
   (.loop r31l0)))
  (.seq (.region [
    ⟨(some 24), none, .act, .mv (.tmp 5)⟩,
    ⟨(some 4), none, .act, .mv (.tmp 24)⟩])
  .ret))))
theorem res31 : ∃ c, Try.f31.body = some c ∧ resCode Try.prog 25 c = some r31 := ⟨_, rfl, by kernel_rfl⟩
theorem rr31 : resRes Try.prog Try.f31.results.toList = some [.tmp 4] := by kernel_rfl
theorem read_loop (key : List UInt8) (S0 : List Seen) (hl : S0.length ≤ 1000000) (h₀ : AHeap) (k : List RT) (Q : AV → AHeap → Prop)
    (H : ∀ h, h₀.le h → RRun Try.prog Try.f31 25 k (Env.get [(5, u64 (S0.foldl (fun ts s => if s.key = key ∧ ts < s.ts then s.ts else ts) 0))]) h Q) : ∀ (m i : Nat) (ts : UInt64) (h : AHeap), i + m = S0.length → (S0.drop i).foldl (fun ts s => if s.key = key ∧ ts < s.ts then s.ts else ts) ts = S0.foldl (fun ts s => if s.key = key ∧ ts < s.ts then s.ts else ts) 0 → h₀.le h →
    RRun Try.prog Try.f31 25 (.inLoop r31l0 :: .inBlock 0 :: k) (Env.get [(1, bys key), (5, u64 ts), (9, seenA S0), (10, i64 S0.length), (11, i64 i)]) h Q := by
  intro m
  induction m with
  | zero =>
    intro i ts h hi hf hle
    rw [List.drop_of_length_le (by omega), List.foldl_nil] at hf
    subst hf
    refine RRun.inLoop ?_
    repeat' (first | refine S.nilK ?_ | (refine S.op rfl ?_; first | ((first | refine S.lss rfl rfl ?_ ?_) <;> intro hlt <;> try (exfalso; omega))) | refine S.seq ?_ | refine S.region ?_ | refine S.condF rfl ?_ | refine RRun.exit rfl ?_)
    exact S.keep [5] rfl (H h hle)
  | succ m ih =>
    intro i ts h hi hf hle
    have hie : i < S0.length := by omega
    have h1 : (S0.map seenC)[((i : Nat) : Int).toNat]? = some (seenC S0[i]) := by simp [hie]
    rw [List.drop_eq_getElem_cons hie, List.foldl_cons] at hf
    generalize S0[i] = s at h1 hf
    have c1 := equal_spec s.key key
    refine RRun.inLoop ?_
    by_cases hk : s.key = key
    · rw [decide_eq_true hk] at c1
      have hmx : u64 (if s.key = key ∧ ts < s.ts then s.ts else ts) = .v (.int .u64 (maxInt [(s.ts.toNat : Int)] ts.toNat)) := by
        by_cases hlt : ts < s.ts
        · rw [if_pos ⟨hk, hlt⟩]
          have := UInt64.lt_iff_toNat_lt.1 hlt
          simp only [maxInt, List.foldl_cons, List.foldl_nil]
          first
            | (rw [if_pos (by omega)])
            | (rw [if_neg (by omega)])
            | (congr 2; omega)
        · rw [if_neg (fun e => hlt e.2)]
          have h3 : ¬ ts.toNat < s.ts.toNat := fun e => hlt (UInt64.lt_iff_toNat_lt.2 e)
          simp only [maxInt, List.foldl_cons, List.foldl_nil]
          first
            | (rw [if_pos (by omega)])
            | (rw [if_neg (by omega)])
            | (congr 2; omega)
      repeat' (first | refine S.nilK ?_ | (refine S.op rfl ?_; first | refine R.indexAddr rfl rfl (by omega) h1 ?_ | refine R.callQ (by decide) rfl (c1 _) ?_ | refine R.minmax rfl ?_ | refine R.mv rfl ?_ | refine R.fieldAddr rfl ?_ | refine R.loadR rfl rfl ?_ | refine R.load (by decide) rfl (by (repeat' (first | exact AHeap.set_same _ _ _)); first | done | fail) rfl ?_ | refine S.addI rfl rfl (by omega) ?_ | refine R.alloc rfl (fun b hb => ?_) | ((first | refine S.lss rfl rfl ?_ ?_) <;> intro hlt <;> try (exfalso; omega))) | (refine S.op0 rfl ?_; first | refine S.storeS rfl rfl rfl (by rfl) rfl (by first | decide | exact Nat.le_refl _ | exact Nat.le_of_ble_eq_true rfl) ?_) | refine S.seq ?_ | refine S.region ?_ | refine S.condT rfl ?_ | refine RRun.skip ?_ | refine RRun.block ?_ | refine RRun.inBlock ?_)
      rw [show ((i : Int) + 1) = ((i + 1 : Nat) : Int) by omega]
      refine S.keep (l' := [(1, bys key), (5, .v (.int .u64 (maxInt [(s.ts.toNat : Int)] ts.toNat))), (9, seenA S0), (10, i64 S0.length), (11, i64 ((i + 1 : Nat) : Int))]) [1, 5, 9, 10, 11] rfl ?_
      rw [← hmx]
      exact S.drop (by repeat (first | exact AHeap.le.refl _ | refine AHeap.le.set ?_ _ (by (repeat' (first | assumption)); first | done | fail))) (ih (i + 1) _ h (by omega) hf hle)
    · rw [decide_eq_false hk] at c1
      rw [if_neg (fun e => hk e.1)] at hf
      repeat' (first | refine S.nilK ?_ | (refine S.op rfl ?_; first | refine R.indexAddr rfl rfl (by omega) h1 ?_ | refine R.callQ (by decide) rfl (c1 _) ?_ | refine R.mv rfl ?_ | refine R.fieldAddr rfl ?_ | refine R.loadR rfl rfl ?_ | refine R.load (by decide) rfl (by (repeat' (first | exact AHeap.set_same _ _ _)); first | done | fail) rfl ?_ | refine S.addI rfl rfl (by omega) ?_ | refine R.alloc rfl (fun b hb => ?_) | ((first | refine S.lss rfl rfl ?_ ?_) <;> intro hlt <;> try (exfalso; omega))) | (refine S.op0 rfl ?_; first | refine S.storeS rfl rfl rfl (by rfl) rfl (by first | decide | exact Nat.le_refl _ | exact Nat.le_of_ble_eq_true rfl) ?_) | refine S.seq ?_ | refine S.region ?_ | refine S.condT rfl ?_ | refine S.condF rfl ?_ | refine RRun.skip ?_ | refine RRun.block ?_ | refine RRun.inBlock ?_)
      rw [show ((i : Int) + 1) = ((i + 1 : Nat) : Int) by omega]
      exact S.keep [1, 5, 9, 10, 11] rfl (S.drop (by repeat (first | exact AHeap.le.refl _ | refine AHeap.le.set ?_ _ (by (repeat' (first | assumption)); first | done | fail))) (ih (i + 1) _ h (by omega) hf hle))
theorem read_spec (r : Run) (hr : r.seen.length ≤ 1000000) (key : List UInt8) (h : AHeap) : ACalls Try.prog 31 [.ag (runC r), bys key] h (fun y h' => y = u64 (readT r key) ∧ h' = h) := by
  obtain ⟨c, hc1, hc2⟩ := res31
  refine ACalls.weak (ACalls.enter Try.func31 hc1 Try.ntmps31 hc2 (Nat.le_of_ble_eq_true rfl) rfl ?_)
  have hlen : (r.seen.map seenC).length = r.seen.length := by simp
  repeat' (first | refine S.nilK ?_ | (refine S.op rfl ?_; first | refine R.mv rfl ?_ | refine R.fieldAddr rfl ?_ | refine R.load (by decide) rfl (by (repeat' (first | exact AHeap.set_same _ _ _)); first | done | fail) rfl ?_ | refine R.len rfl ?_ | refine R.box rfl rfl rfl (fun b hb => ?_)) | refine S.seq ?_ | refine S.region ?_ | refine RRun.block ?_)
  rw [hlen]
  refine RRun.loopIn (S.keep [1, 5, 9, 10, 11] rfl (read_loop key r.seen hr h _ _ (fun h1 hle => ?_) r.seen.length 0 0 _ (by omega) rfl (by repeat (first | exact AHeap.le.refl _ | refine AHeap.le.set ?_ _ (by (repeat' (first | assumption)); first | done | fail)))))
  repeat' (first | refine S.nilK ?_ | (refine S.op rfl ?_; first | refine R.mv rfl ?_) | refine S.seq ?_ | refine S.region ?_)
  apply S.ret rr31
  case hx => repeat (first | exact ResAt.nil | apply ResAt.tmp rfl)
  exact ⟨_, h, .refl _, hle, rfl, rfl⟩
end Go.Proofs.Ythfolomknkobkaa

namespace Go.Proofs.Ythfolomknkobkaa
open Go.Av
theorem born_inj {es : List MapEntry} (hn : (es.map (·.born)).Nodup) {x y : MapEntry} (hx : x ∈ es) (hy : y ∈ es) (e : x.born = y.born) : x = y := by
  induction es with
  | nil => cases hx
  | cons z l ih =>
    simp only [List.map_cons, List.nodup_cons] at hn
    rcases List.mem_cons.1 hx with e1 | hx2
    · rcases List.mem_cons.1 hy with e2 | hy2
      · rw [e1, e2]
      · exact absurd (by rw [← e1, e]; exact List.mem_map_of_mem hy2) hn.1
    · rcases List.mem_cons.1 hy with e2 | hy2
      · exact absurd (by rw [← e2, ← e]; exact List.mem_map_of_mem hx2) hn.1
      · exact ih hn.2 hx2 hy2
theorem keysIt_loop (es : Array MapEntry) (s : Nat) (hnd : (es.toList.map (·.born)).Nodup) (hold : ∀ e ∈ es.toList, e.born < s) (l m it : Nat) (hmi : m ≠ it) (h0 : AHeap) (C0 : Nat → Prop) (h0m : ¬ C0 m) (h0it : h0 it = none) (I : List MapEntry → (Nat → Prop) → AHeap → Prop) (hI : ∀ d, Client (I d))
    (hy : ∀ d e, e ∈ es.toList → e ∉ d → d.length < es.size → ∀ C h, I d C h → YStep Try.prog l [.v e.key] C h (I (d ++ [e])) (fun _ _ => False)) (Q : AV → AHeap → Prop)
    (hQ : ∀ x d C h, I d C h → d.Perm es.toList → (∀ x o, h0 x = some o → x ≠ m → ¬ C0 x → h x = some o) → (∀ x, C x → C0 x ∨ h0 x = none) → Q x h) : ∀ (n : Nat) (d : List MapEntry) (C : Nat → Prop) (g : AHeap), d.length + n = es.size → (∀ e ∈ d, e ∈ es.toList) → d.Nodup → I d C g → ¬ C m → ¬ C it →
    g m = some (.keep (.map es s)) → g it = some (.keep (.mapIter (some m) s (d.map (·.born)).toArray s)) → (∀ x o, h0 x = some o → x ≠ m → ¬ C0 x → g x = some o) → (∀ x, C x → C0 x ∨ h0 x = none) →
    RRun Try.prog Try.f61 14 [.inLoop r61l0, .inBlock 0] (Env.get [(0, yieldV l), (5, ptr it)]) g Q := by
  have leftmem : ∀ (d : List MapEntry) (e : MapEntry), e ∈ (leftOf es (d.map (·.born)).toArray).toList ↔ e ∈ es.toList ∧ e.born ∉ d.map (·.born) := by
    intro d e
    unfold leftOf
    simp [Array.mem_toList_iff]
  intro n
  induction n with
  | zero =>
    intro d C g hdl hds hdn hIg hCm hCi hgm hgi hF hC
    have hleft0 : ∀ e, e ∉ (leftOf es (d.map (·.born)).toArray).toList := by
      intro e he
      have he2 := (leftmem d e).1 he
      have : (e :: d).length ≤ es.toList.length := by
        have hnd2 : (e :: d).Nodup := List.nodup_cons.2 ⟨fun hm => he2.2 (List.mem_map_of_mem hm), hdn⟩
        have hle : ∀ (A B : List MapEntry), A.Nodup → (∀ x ∈ A, x ∈ B) → A.length ≤ B.length := by
          intro A
          induction A with
          | nil => intro B _ _; simp
          | cons x A ihA =>
            intro B hA hsub
            have hx := hsub x (List.mem_cons_self ..)
            obtain ⟨B1, B2, rfl⟩ := List.append_of_mem hx
            have h2 := ihA (B1 ++ B2) (List.nodup_cons.1 hA).2 (fun y hy => by
              have := hsub y (List.mem_cons_of_mem _ hy)
              have hne : y ≠ x := fun e => (List.nodup_cons.1 hA).1 (e ▸ hy)
              simp only [List.mem_append, List.mem_cons] at this ⊢
              rcases this with h | h | h
              · exact .inl h
              · exact absurd h hne
              · exact .inr h)
            simp only [List.length_append, List.length_cons] at h2 ⊢; omega
        exact hle _ _ hnd2 (fun x hx => by
          rcases List.mem_cons.1 hx with rfl | hx
          · exact he2.1
          · exact hds x hx)
      simp only [List.length_cons, Array.length_toList] at this
      omega
    refine RRun.inLoop ?_
    refine RRun.seq (RRun.region ?_)
    refine S.op rfl (R.nextMapK rfl rfl hgi hgm hold (fun hz => ?_) (fun e he => absurd he (hleft0 e)))
    have hperm : d.Perm es.toList := by
      refine (List.perm_ext_iff_of_nodup hdn (List.Pairwise.of_map (S := (· ≠ ·)) (·.born) (fun a b h e => h (e ▸ rfl)) (List.nodup_iff_pairwise_ne.1 hnd))).2 fun e => ⟨hds e, fun he => ?_⟩
      by_cases hb : e.born ∈ d.map (·.born)
      · obtain ⟨e2, h2, h3⟩ := List.mem_map.1 hb
        have := born_inj hnd (hds e2 h2) he h3
        exact this ▸ h2
      · exact absurd ((leftmem d e).2 ⟨he, hb⟩) (hleft0 e)
    repeat' (first | refine S.nilK ?_ | (refine S.op rfl ?_; first | refine R.extract rfl rfl ?_) | refine S.seq ?_ | refine S.condF rfl ?_ | refine RRun.exit rfl ?_)
    apply S.done rr61
    case hx => repeat (first | exact ResAt.nil)
    exact hQ _ d C g hIg hperm hF hC
  | succ n ih =>
    intro d C g hdl hds hdn hIg hCm hCi hgm hgi hF hC
    refine RRun.inLoop ?_
    refine RRun.seq (RRun.region ?_)
    refine S.op rfl (R.nextMapK rfl rfl hgi hgm hold (fun hz => ?_) (fun e he => ?_))
    · have hperm : d.Perm es.toList := by
        refine (List.perm_ext_iff_of_nodup hdn (List.Pairwise.of_map (S := (· ≠ ·)) (·.born) (fun a b h e => h (e ▸ rfl)) (List.nodup_iff_pairwise_ne.1 hnd))).2 fun e => ⟨hds e, fun he => ?_⟩
        by_cases hb : e.born ∈ d.map (·.born)
        · obtain ⟨e2, h2, h3⟩ := List.mem_map.1 hb
          have := born_inj hnd (hds e2 h2) he h3
          exact this ▸ h2
        · have := (leftmem d e).2 ⟨he, hb⟩
          have hz2 : (leftOf es (d.map (·.born)).toArray).toList = [] := List.eq_nil_of_length_eq_zero (by rw [Array.length_toList]; exact hz)
          rw [hz2] at this
          cases this
      repeat' (first | refine S.nilK ?_ | (refine S.op rfl ?_; first | refine R.extract rfl rfl ?_) | refine S.seq ?_ | refine S.condF rfl ?_ | refine RRun.exit rfl ?_)
      apply S.done rr61
      case hx => repeat (first | exact ResAt.nil)
      exact hQ _ d C g hIg hperm hF hC
    · obtain ⟨he1, he2⟩ := (leftmem d e).1 he
      have hpush : (d.map (·.born)).toArray.push e.born = ((d ++ [e]).map (·.born)).toArray := by simp
      have hCnot : ∀ x, C x → x ≠ it := fun x hx e => hCi (e ▸ hx)
      have hI1 : I d C (g.set it (.keep (.mapIter (some m) s ((d.map (·.born)).toArray.push e.born) s))) := (hI d).loc _ _ _ hIg (fun x hx => AHeap.set_other _ _ (hCnot x hx))
      have hm1 : (g.set it (.keep (.mapIter (some m) s ((d.map (·.born)).toArray.push e.born) s))) m = some (.keep (.map es s)) := by rw [AHeap.set_other _ _ hmi]; exact hgm
      have hi1 : (g.set it (.keep (.mapIter (some m) s ((d.map (·.born)).toArray.push e.born) s))) it = some (.keep (.mapIter (some m) s ((d.map (·.born)).toArray.push e.born) s)) := AHeap.set_same _ _ _
      have hF1 : ∀ x o, h0 x = some o → x ≠ m → ¬ C0 x → (g.set it (.keep (.mapIter (some m) s ((d.map (·.born)).toArray.push e.born) s))) x = some o := fun x o hx hxm hxc => by
        rw [AHeap.set_other _ _ (fun e => by subst e; rw [h0it] at hx; cases hx)]
        exact hF x o hx hxm hxc
      generalize g.set it (.keep (.mapIter (some m) s ((d.map (·.born)).toArray.push e.born) s)) = g1 at hI1 hm1 hi1 hF1 ⊢
      have hed : e ∉ d := fun hm => he2 (List.mem_map_of_mem hm)
      repeat' (first | refine S.nilK ?_ | (refine S.op rfl ?_; first | refine R.entryMapK rfl rfl hi1 hm1 he1 hnd ?_ | refine R.mv rfl ?_ | refine R.extract rfl rfl ?_) | refine S.seq ?_ | refine S.region ?_ | refine S.condT rfl ?_ | refine RRun.skip ?_ | refine RRun.block ?_)
      refine S.op rfl (R.yield rfl rfl rfl ((hy d e he1 hed (by omega) C g1 hI1).mono ?_))
      rintro bb h' ⟨C', hC', hft, hbb⟩
      cases bb with
      | false => exact absurd hbb (by simp)
      | true =>
        repeat' (first | refine S.nilK ?_ | (refine S.op rfl ?_; first | refine R.not rfl ?_) | refine S.condF rfl ?_ | refine RRun.skip ?_ | refine RRun.inBlock ?_)
        have hm2 : ¬ C' m := fun hx => (hC' m hx).elim hCm (fun e' => by rw [hm1] at e'; cases e')
        have hi2 : ¬ C' it := fun hx => (hC' it hx).elim hCi (fun e' => by rw [hi1] at e'; cases e')
        refine S.keep [0, 5] rfl (ih (d ++ [e]) C' h' (by simp; omega) (fun x hx => ?_) ?_ hbb hm2 hi2 (hft m _ hm1 hCm) (by rw [← hpush]; exact hft it _ hi1 hCi) (fun x o hx hxm hxc => hft x o (hF1 x o hx hxm hxc) (fun hc => (hC x hc).elim hxc (fun e' => by rw [hx] at e'; cases e'))) (fun x hx => ?_))
        · rcases List.mem_append.1 hx with h | h
          · exact hds x h
          · simp only [List.mem_singleton] at h; subst h; exact he1
        · rw [List.nodup_append]
          refine ⟨hdn, by simp, fun a ha b hb => ?_⟩
          simp only [List.mem_singleton] at hb
          subst hb
          exact fun e => hed (e ▸ ha)
        · rcases hC' x hx with hc | hc
          · exact hC x hc
          · cases hex : h0 x with
            | none => exact .inr rfl
            | some o =>
              by_cases h0x : C0 x
              · exact .inl h0x
              · by_cases hxm : x = m
                · subst hxm; rw [hm1] at hc; cases hc
                · have := hF1 x o hex hxm h0x; rw [hc] at this; cases this
end Go.Proofs.Ythfolomknkobkaa

namespace Go.Proofs.Ythfolomknkobkaa
open Go.Av
def RowG (l : List Value) (d : AV) (B : Nat → Prop) (g : AHeap) : Prop :=
  (l = [] ∧ d = .v (.slice none 0 0) ∧ ∀ x, ¬ B x) ∨ ∃ b cap sp, d = slAt b 0 l.length cap ∧ g b = some (.box (l.map AV.v ++ sp)) ∧ l.length + sp.length = cap ∧ cap ≤ maxLen ∧ l ≠ [] ∧ ∀ x, B x ↔ x = b
theorem rowG_own {l : List Value} {d : AV} {B : Nat → Prop} {g : AHeap} (h : RowG l d B g) : ∀ x, B x → g x ≠ none := fun x hx => by
  rcases h with ⟨_, _, h⟩ | ⟨b, cap, sp, _, h2, _, _, _, h3⟩
  · exact absurd hx (h x)
  · rw [(h3 x).1 hx, h2]; simp
theorem rowG_loc {l : List Value} {d : AV} {B : Nat → Prop} {g g' : AHeap} (h : RowG l d B g) (hl : ∀ x, B x → g' x = g x) : RowG l d B g' := by
  rcases h with h | ⟨b, cap, sp, h1, h2, h3, h4, h5, h6⟩
  · exact .inl h
  · exact .inr ⟨b, cap, sp, h1, (hl b ((h6 b).2 rfl)).trans h2, h3, h4, h5, h6⟩
theorem rowG_box {l : List Value} {d : AV} {B : Nat → Prop} {g : AHeap} (h : RowG l d B g) {x : Nat} {r : ALoop} (hx : g x = some (.loop r)) : ¬ B x := fun hb => by
  rcases h with ⟨_, _, h⟩ | ⟨b, cap, sp, _, h2, _, _, _, h3⟩
  · exact h x hb
  · rw [(h3 x).1 hb, h2] at hx; cases hx
theorem rowG_cells {l : List Value} {d : AV} {B : Nat → Prop} {g : AHeap} (h : RowG l d B g) : d.cells? = some [d] := by
  rcases h with ⟨_, rfl, _⟩ | ⟨b, cap, sp, rfl, _⟩ <;> rfl
theorem one_num (v : Value) (hv1 : v.oneCell' = true) : ∀ e ∈ [[AV.v v]], ∀ a ∈ e, a.one = true := by
  intro e he a ha
  simp only [List.mem_singleton] at he
  subst he
  simp only [List.mem_singleton] at ha
  subst ha; exact hv1
theorem over_app1 (A S : List AV) (X : AV) (n : Nat) (hn : n = A.length) : over (A ++ S) n [X] = A ++ [X] ++ S.drop 1 := by
  subst hn
  unfold over
  rw [List.take_left, List.drop_append, List.drop_of_length_le (by simp), List.nil_append]
  simp
theorem S.pushU {P : Program} {c : Cls} {E : AEnv} {g : AHeap} {K : AV → AHeap → Prop} {zero : List Value} {x y : Operand} {d y' : AV} {l : List Value} {v : Value} {B : Nat → Prop} (hv1 : v.oneCell' = true) (hc : c = .act) (hr : RowG l d B g) (hx : aev E x = some d) (hy : aev E y = some y') (hs : Go.Av.Src 1 y' [[AV.v v]]) (hl : l.length ≤ 1000000)
    (hk : ∀ d' B' g', RowG (l ++ [v]) d' B' g' → (∀ x o, g x = some o → ¬ B x → g' x = some o) → (∀ x, B' x → B x ∨ g x = none) → K d' g') : ROpS P c (.append 1 16 zero x y) E g K := by
  rcases hr with ⟨rfl, rfl, h1⟩ | ⟨b, cap, sp, rfl, h1, h2, h3, h4, h5⟩
  · refine R.appendBox hc hx .nil hy hs (one_num v hv1) (by simp) (by simp) (by simp) (fun p cap hp hc1 hc2 => hk _ (fun x => x = p) _ (.inr ⟨p, cap, List.replicate ((cap - 1) * 1) .any, rfl, ?_, ?_, hc2, by simp, fun x => Iff.rfl⟩) ?_ ?_)
    · exact AHeap.set_same _ _ _
    · simp at hc1 ⊢; omega
    · intro x o e _; exact AHeap.get_fresh hp e
    · rintro x rfl; exact .inr hp
  · refine R.appendOwn hc hx h1 (by simp; omega) (by omega) hy hs (one_num v hv1) (by simp) (by simp; omega) (by simp; omega) (fun hroom => ?_) (fun p' cap' hp' hc1 hc2 => ?_)
    · refine hk _ (fun x => x = b) _ (.inr ⟨b, cap, sp.drop 1, ?_, ?_, ?_, h3, by simp, fun x => Iff.rfl⟩) ?_ ?_
      · simp
      · rw [AHeap.set_same]
        have := over_app1 (l.map AV.v) sp (AV.v v) (0 + l.length * 1) (by simp)
        simp only [List.flatten_cons, List.flatten_nil, List.append_nil]
        rw [this]; simp
      · simp at hroom ⊢; omega
      · intro x o e hn
        rw [AHeap.set_other _ _ (fun e' => hn ((h5 x).2 e'))]; exact e
      · intro x hx; exact .inl ((h5 x).2 hx)
    · refine hk _ (fun x => x = p') _ (.inr ⟨p', cap', List.replicate ((cap' - (l.length + 1)) * 1) .any, ?_, ?_, ?_, hc2, by simp, fun x => Iff.rfl⟩) ?_ ?_
      · simp
      · rw [AHeap.set_same]; simp
      · simp at hc1 ⊢; omega
      · intro x o e hn; exact AHeap.get_fresh hp' e
      · rintro x rfl; exact .inr hp'
theorem keysIt_spec (l q m : Nat) (ents : List (Value × AV)) (h0 : AHeap) (C0 : Nat → Prop) (h0m : ¬ C0 m) (hown : ∀ x, C0 x → h0 x ≠ none) (hq : h0 q = some (.box [.v (.map (some m))])) (hm : h0 m = some (.map ents)) (I : List MapEntry → (Nat → Prop) → AHeap → Prop) (hI : ∀ d, Client (I d)) (hI0 : I [] C0 h0)
    (hy : ∀ es : Array MapEntry, es.toList.map (·.key) = ents.map (·.1) → ∀ d e, e ∈ es.toList → e ∉ d → d.length < es.size → ∀ C h, I d C h → YStep Try.prog l [.v e.key] C h (I (d ++ [e])) (fun _ _ => False)) :
    ACalls Try.prog 61 [yieldV l, ptr q] h0 (fun _ h' => ∃ (es : Array MapEntry) (d : List MapEntry) (C : Nat → Prop), es.toList.map (·.key) = ents.map (·.1) ∧ d.Perm es.toList ∧ I d C h' ∧ (∀ x o, h0 x = some o → x ≠ m → ¬ C0 x → h' x = some o) ∧ (∀ x, C x → C0 x ∨ h0 x = none)) := by
  obtain ⟨c, hc1, hc2⟩ := res61
  refine ACalls.enter Try.func61 hc1 Try.ntmps61 hc2 (Nat.le_of_ble_eq_true rfl) rfl ?_
  repeat' (first | refine S.nilK ?_ | (refine S.op rfl ?_; first | refine R.rangeMapK rfl rfl hm (fun it es s hit g1 g2 g3 => ?_) | refine R.load (by decide) rfl (by (repeat' (first | assumption)); first | done | fail) rfl ?_) | refine S.seq ?_ | refine S.region ?_ | refine RRun.block ?_)
  have hmi : m ≠ it := AHeap.ne_of hit hm
  have hC0it : ¬ C0 it := fun hx => hown it hx hit
  refine RRun.loopIn (S.keep [0, 5] rfl (keysIt_loop es s g2 g3 l m it hmi h0 C0 h0m hit I hI (hy es g1) _ (fun x d C h a1 a2 a3 a4 => ⟨es, d, C, g1, a2, a1, a3, a4⟩) es.size [] C0 _ (by simp) (by simp) List.nodup_nil ?_ h0m hC0it ?_ (AHeap.set_same _ _ _) ?_ (fun x hx => .inl hx)))
  · refine (hI []).loc _ _ _ hI0 fun x hx => ?_
    rw [AHeap.set_other _ _ (fun e => hC0it (by rw [← e]; exact hx)), AHeap.set_other _ _ (fun e => h0m (by rw [← e]; exact hx))]
  · rw [AHeap.set_other _ _ hmi]; exact AHeap.set_same _ _ _
  · intro x o hx hxm _
    rw [AHeap.set_other _ _ (fun e => by subst e; rw [hit] at hx; cases hx), AHeap.set_other _ _ hxm]; exact hx
theorem keys_fn (m : Nat) (h : AHeap) : ACalls Try.prog 42 [.v (.map (some m))] h (fun x h' => ∃ q, h q = none ∧ x = .v (.func (.func 61) #[] #[.pointer (some ⟨q, 0, none⟩)]) ∧ h' = h.set q (.box [.v (.map (some m))])) := by
  obtain ⟨c, hc1, hc2⟩ := res42
  refine ACalls.enter Try.func42 hc1 Try.ntmps42 hc2 (Nat.le_of_ble_eq_true rfl) rfl ?_
  repeat' (first | refine S.nilK ?_ | (refine S.op rfl ?_; first | refine R.mv rfl ?_ | refine R.box rfl rfl rfl (fun b hb => ?_) | refine R.makeFunc rfl rfl ?_) | refine S.seq ?_ | refine S.region ?_)
  apply S.ret rr42
  case hx => repeat (first | exact ResAt.nil | apply ResAt.tmp rfl)
  exact ⟨b, hb, rfl, rfl⟩
def asgSeq : RCode := .region [⟨(some 5), none, .act, .mv (.tmp 7)⟩]
def AsI (L : List (Nat × AV)) (cx cy : Code) (l p : Nat) (d0 : List MapEntry) (C : Nat → Prop) (h : AHeap) : Prop :=
  h l = some (.loop (loop0 L 13 #[7] cx cy)) ∧ ∃ d B, h p = some (.box [d]) ∧ RowG (d0.map (·.key)) d B h ∧ ¬ B l ∧ ¬ B p ∧ ∀ x, C x ↔ (x = l ∨ x = p ∨ B x)
theorem asI_client (L : List (Nat × AV)) (cx cy : Code) (l p : Nat) (k : List MapEntry) : Client (AsI L cx cy l p k) where
  own := by
    rintro C h ⟨h1, d, B, h2, h3, _, _, h4⟩ x hx
    rcases (h4 x).1 hx with rfl | rfl | hb
    · rw [h1]; simp
    · rw [h2]; simp
    · exact rowG_own h3 x hb
  loc := by
    rintro C h h' ⟨h1, d, B, h2, h3, h5, h6, h4⟩ hl
    refine ⟨?_, d, B, ?_, rowG_loc h3 fun x hx => hl x ((h4 x).2 (.inr (.inr hx))), h5, h6, h4⟩
    · rw [hl l ((h4 l).2 (.inl rfl))]; exact h1
    · rw [hl p ((h4 p).2 (.inr (.inl rfl)))]; exact h2
theorem as_round (clo : AV) (cx cy : Code) (l p : Nat) (hlp : l ≠ p) (hx : Resd Try.prog 13 cx asgSeq) (hy : Resd Try.prog 13 cy r68b0)
    (k : List MapEntry) (e : MapEntry) (he1 : ∃ s, e.key = .string s) (hk : k.length ≤ 1000000) (C : Nat → Prop) (h : AHeap) (hI : AsI [(6, clo), (2, ptr p)] cx cy l p k C h) (Z : (Nat → Prop) → AHeap → Prop) :
    YStep Try.prog l [.v e.key] C h (AsI [(6, clo), (2, ptr p)] cx cy l p (k ++ [e])) Z := by
  obtain ⟨h1, d, B, h2, h3, h5, h6, h4⟩ := hI
  have hpl := Ne.symm hlp
  obtain ⟨ek, ev, eb⟩ := e
  obtain ⟨s, hs⟩ := he1
  simp only at hs
  subst hs
  refine AYield.mk h1 hx hy rfl rfl rfl ?_
  unfold asgSeq
  repeat' (first | (refine S.begin (by (repeat' (first | assumption)); first | done | fail) rfl ?_) | (refine S.op rfl ?_; first | refine R.mv rfl ?_ | refine R.load (by decide) rfl (by (repeat' (first | assumption | refine AHeap.so ?_ ?_)); first | done | fail) rfl ?_ | refine R.buildSl rfl rfl rfl (by decide) ?_) | refine S.region ?_ | refine RRun.block ?_)
  have h3' : RowG (k.map (·.key)) d B (h.set l (.loop { loop0 [(6, clo), (2, ptr p)] 13 #[7] cx cy with state := .busy })) := rowG_loc h3 fun x hx => AHeap.set_other _ _ (fun e => h5 (e ▸ hx))
  refine S.op rfl (S.pushU (v := .string s) rfl rfl h3' rfl rfl (.sl _ _) (by simpa using hk) (fun d' B' g' g1 g2 g3 => ?_))
  have hl' := g2 l _ (AHeap.set_same _ _ _) h5
  have hp' := g2 p _ ((AHeap.set_other _ _ hpl).trans h2) h6
  have hBl : ¬ B' l := rowG_box g1 hl'
  have hBp : ¬ B' p := fun hb => by
    rcases g3 p hb with e | e
    · exact h6 e
    · rw [AHeap.set_other _ _ hpl, h2] at e; cases e
  repeat' (first | (refine S.op0 rfl (R.store rfl rfl hp' rfl (rowG_cells g1) rfl (Nat.le_refl _) ?_)) | refine S.nilK ?_ | refine RRun.inBlock ?_)
  refine RRunG.done ?_
  have htake : (k ++ [(⟨.string s, ev, eb⟩ : MapEntry)]).map (·.key) = k.map (·.key) ++ [.string s] := by simp
  refine ⟨_, (AHeap.set_other _ _ hlp).trans hl', fun x => (x = l ∨ x = p ∨ B' x), ?_, ?_, ?_⟩
  · rintro x (e | e | e)
    · exact .inl ((h4 x).2 (.inl e))
    · exact .inl ((h4 x).2 (.inr (.inl e)))
    · rcases g3 x e with q | q
      · exact .inl ((h4 x).2 (.inr (.inr q)))
      · exact .inr (AHeap.z1 q)
  · intro x o e hn
    have hn' : ¬ (x = l ∨ x = p ∨ B x) := fun q => hn ((h4 x).2 q)
    have x1 : x ≠ l := fun e => hn' (.inl e)
    have x2 : x ≠ p := fun e => hn' (.inr (.inl e))
    rw [AHeap.set_other _ _ x1, AHeap.set_other _ _ x2]
    exact g2 x o ((AHeap.set_other _ _ x1).trans e) (fun q => hn' (.inr (.inr q)))
  · show AsI _ _ _ _ _ _ _ _
    refine ⟨AHeap.set_same _ _ _, d', B', ?_, ?_, hBl, hBp, fun x => Iff.rfl⟩
    · refine (AHeap.set_other _ _ hpl).trans ((AHeap.set_same _ _ _).trans rfl)
    · rw [htake]
      exact rowG_loc g1 fun x hx => by
        have el : x ≠ l := by rintro rfl; exact hBl hx
        have ep : x ≠ p := by rintro rfl; exact hBp hx
        rw [AHeap.set_other _ _ el, AHeap.set_other _ _ ep]
theorem appendSeq_spec (q m : Nat) (ents : List (Value × AV)) (hlen : ents.length ≤ 1000000) (hone : ∀ p ∈ ents, ∃ s, p.1 = .string s) (h : AHeap) (hq : h q = some (.box [.v (.map (some m))])) (hm : h m = some (.map ents)) :
    ACalls Try.prog 68 [.v (.slice none 0 0), .v (.func (.func 61) #[] #[.pointer (some ⟨q, 0, none⟩)])] h (fun x h' => ∃ vs B, vs.Perm (ents.map (·.1)) ∧ RowG vs x B h' ∧ (∀ y o, h y = some o → y ≠ m → h' y = some o) ∧ (∀ y, B y → h y = none)) := by
  obtain ⟨c, hc1, hc2⟩ := res68
  refine ACalls.enter Try.func68 hc1 Try.ntmps68 hc2 (Nat.le_of_ble_eq_true rfl) rfl ?_
  repeat' (first | refine S.nilK ?_ | (refine S.op rfl ?_; first | refine R.mv rfl ?_ | refine R.box rfl rfl rfl (fun b hb => ?_)) | refine S.seq ?_ | refine S.region ?_ | refine RRun.block ?_)
  refine S.keep [6, 2] rfl ?_
  refine S.rangeFunc rfl (FnIs.v 61 #[] #[.pointer (some ⟨q, 0, none⟩)]) (by kernel_rfl) (fun l0 e => by cases e) fun cx cy hx hy l hl => ?_
  have hlb : l ≠ b := (AHeap.fresh_set hl).1
  have fl : h l = none := (AHeap.fresh_set hl).2
  have hqb : q ≠ b := AHeap.ne_of hb hq
  have hql : q ≠ l := AHeap.ne_of fl hq
  have hmb : m ≠ b := AHeap.ne_of hb hm
  have hml : m ≠ l := AHeap.ne_of fl hm
  generalize hH : AHeap.set _ l (.loop (loop0 _ 13 #[7] cx cy)) = H
  have H0 : ∀ x o, h x = some o → H x = some o := fun x o e => by
    have e1 : x ≠ b := AHeap.ne_of hb e
    have e2 : x ≠ l := AHeap.ne_of fl e
    rw [← hH]; simp only [AHeap.set, e1, e2, if_false]; exact e
  have I0 : AsI [(6, .v (.func (.func 61) #[] #[.pointer (some ⟨q, 0, none⟩)])), (2, ptr b)] cx cy l b [] (fun x => x = l ∨ x = b ∨ False) H := by
    rw [← hH]
    exact ⟨AHeap.set_same _ _ _, _, fun _ => False, (AHeap.set_other _ _ (Ne.symm hlb)).trans (AHeap.set_same _ _ _), .inl ⟨rfl, rfl, fun _ e => e⟩, fun e => e, fun e => e, fun x => Iff.rfl⟩
  refine (keysIt_spec l q m ents H (fun x => x = l ∨ x = b ∨ False) (fun e => e.elim hml (fun e => e.elim hmb id)) (fun x hx => (asI_client _ cx cy l b []).own _ _ I0 x hx) (H0 q _ hq) (H0 m _ hm) (AsI [(6, .v (.func (.func 61) #[] #[.pointer (some ⟨q, 0, none⟩)])), (2, ptr b)] cx cy l b) (fun d => asI_client _ cx cy l b d) I0 ?_).mono ?_
  · intro es hes d e he hed hdl C g hg
    have hsz : es.size = ents.length := by have := congrArg List.length hes; simpa using this
    have hek : ∃ s, e.key = .string s := by
      have : e.key ∈ ents.map (·.1) := by rw [← hes]; exact List.mem_map_of_mem he
      obtain ⟨p, hp, e2⟩ := List.mem_map.1 this
      obtain ⟨s, hs⟩ := hone p hp
      exact ⟨s, by rw [← e2]; exact hs⟩
    exact as_round _ cx cy l b hlb hx hy d e hek (by omega) C g hg _
  · rintro x h' ⟨es, d0, C, hes, hper, ⟨h1, d, B, h2, h3, h5, h6, h4⟩, hF, hC⟩
    refine ⟨_, h1, by simp, ?_⟩
    show RRunG _ _ _ _ _ _ _
    have D2 := (AHeap.del_other h' (Ne.symm hlb)).trans h2
    have D3 : RowG (d0.map (·.key)) d B (h'.del l) := rowG_loc h3 fun x hx => AHeap.del_other h' (by rintro rfl; exact h5 hx)
    have HD : ∀ x o, h x = some o → x ≠ m → h'.del l x = some o := fun x o e hxm => (AHeap.del_other h' (AHeap.ne_of fl e)).trans (hF x o (H0 x o e) hxm (by
      rintro (e' | e' | e')
      · subst e'; rw [fl] at e; cases e
      · subst e'; rw [hb] at e; cases e
      · exact e'))
    have HB : ∀ x, B x → h x = none := fun x hx => by
      rcases hC x ((h4 x).2 (.inr (.inr hx))) with (e | e | e) | e
      · subst e; exact fl
      · subst e; exact hb
      · exact absurd e id
      · cases he : h x with
        | none => rfl
        | some o => have := H0 x o he; rw [e] at this; cases this
    have hpm : (d0.map (·.key)).Perm (ents.map (·.1)) := by rw [← hes]; exact hper.map _
    generalize h'.del l = D at D2 D3 HD ⊢
    repeat' (first | refine S.nilK ?_ | (refine S.op rfl ?_; first | refine R.mv rfl ?_ | refine R.load (by decide) rfl (by (repeat' (first | assumption)); first | done | fail) rfl ?_) | refine S.seq ?_ | refine S.region ?_ | refine RRun.inBlock ?_)
    apply S.ret rr68
    case hx => repeat (first | exact ResAt.nil | apply ResAt.tmp rfl)
    exact ⟨_, B, hpm, D3, HD, HB⟩
theorem collect_spec (q m : Nat) (ents : List (Value × AV)) (hlen : ents.length ≤ 1000000) (hone : ∀ p ∈ ents, ∃ s, p.1 = .string s) (h : AHeap) (hq : h q = some (.box [.v (.map (some m))])) (hm : h m = some (.map ents)) :
    ACalls Try.prog 59 [.v (.func (.func 61) #[] #[.pointer (some ⟨q, 0, none⟩)])] h (fun x h' => ∃ vs B, vs.Perm (ents.map (·.1)) ∧ RowG vs x B h' ∧ (∀ y o, h y = some o → y ≠ m → h' y = some o) ∧ (∀ y, B y → h y = none)) := by
  obtain ⟨c, hc1, hc2⟩ := res59
  refine ACalls.enter Try.func59 hc1 Try.ntmps59 hc2 (Nat.le_of_ble_eq_true rfl) rfl ?_
  repeat' (first | refine S.nilK ?_ | (refine S.op rfl ?_; first | refine R.mv rfl ?_) | refine S.seq ?_ | refine S.region ?_)
  refine S.op rfl (R.call rfl rfl ((appendSeq_spec q m ents hlen hone h hq hm).mono ?_))
  rintro x h' ⟨vs, B, h1, h2, h3, h4⟩
  repeat' (first | refine S.nilK ?_ | (refine S.op rfl ?_; first | refine R.mv rfl ?_))
  apply S.ret rr59
  case hx => repeat (first | exact ResAt.nil | apply ResAt.tmp rfl)
  exact ⟨vs, B, h1, h2, h3, h4⟩
end Go.Proofs.Ythfolomknkobkaa
