import Derived.Test.YtnmgamcmjjngcaaY4
import Derived.Test.YtnmgamcmjjngcaaT4
set_option linter.unusedVariables false
set_option linter.unusedSimpArgs false
namespace Go.Proofs.Ytnmgamcmjjngcaa
open Go.Av

/-! ### The members that are told -/

def tells (e : Entry) : Option (List UInt64) := if e.kind = 1 then ofM e.data else none
def tell1 (d : List UInt64 × UInt64) (e : Entry) : List UInt64 × UInt64 :=
  match tells e with
  | some m => (m, e.index)
  | none => d
def told (d : List UInt64 × UInt64) (l : List Entry) : List UInt64 × UInt64 := l.foldl tell1 d
def toldAns (d : List UInt64 × UInt64) : AV := .tu [u64s d.1, u64 d.2]
def Log.zero' (L : Log) : List UInt64 × UInt64 := (L.s.members, L.s.index)

theorem told_succ (d : List UInt64 × UInt64) (l : List Entry) (i : Nat) (h : i < l.length) : told d (l.take (i + 1)) = tell1 (told d (l.take i)) l[i] := by
  rw [List.take_succ_eq_append_getElem h, told, List.foldl_append]; rfl

def r64l0 : RCode :=
  (.seq (.seq (.region [
    ⟨(some 11), none, .act, .mv (.tmp 6)⟩,
    ⟨(some 12), none, .act, .bin .geq (.tmp 11) (.const (.int .i64 0))⟩])
  (.cond (.tmp 12)
   .skip
   (.exit 0)))
  (.seq (.block 1
   (.seq (.seq (.region [
     ⟨(some 15), none, .act, .mv (.tmp 0)⟩,
     ⟨(some 16), none, .act, .nilCheck (.tmp 15)⟩,
     ⟨(some 17), none, .act, .fieldAddr 4 (.tmp 16)⟩,
     ⟨(some 18), none, .act, .load false 1 (.tmp 17)⟩,
     ⟨(some 19), none, .act, .mv (.tmp 6)⟩,
     ⟨(some 20), none, .act, .indexAddr 4 (.tmp 18) (.tmp 19)⟩,
     ⟨(some 21), none, .act, .fieldAddr 2 (.tmp 20)⟩,
     ⟨(some 22), none, .act, .load false 1 (.tmp 21)⟩,
     ⟨(some 23), none, .act, .eq true .int (.tmp 22) (.const (.int .i64 1))⟩])
   (.cond (.tmp 23)
    (.exit 1)
    .skip))
   (.seq (.region [
     ⟨(some 25), none, .act, .mv (.tmp 0)⟩,
     ⟨(some 26), none, .act, .nilCheck (.tmp 25)⟩,
     ⟨(some 27), none, .act, .fieldAddr 4 (.tmp 26)⟩,
     ⟨(some 28), none, .act, .load false 1 (.tmp 27)⟩,
     ⟨(some 29), none, .act, .mv (.tmp 6)⟩,
     ⟨(some 30), none, .act, .indexAddr 4 (.tmp 28) (.tmp 29)⟩,
     ⟨(some 31), none, .act, .fieldAddr 3 (.tmp 30)⟩,
     ⟨(some 32), none, .act, .load false 1 (.tmp 31)⟩,
     ⟨(some 33), none, .act, .call 37 [(.tmp 32)]⟩,
     ⟨(some 24), none, .act, .mv (.tmp 33)⟩,
     ⟨(some 34), none, .act, .extract (.tmp 24) 0⟩,
     ⟨(some 35), none, .act, .extract (.tmp 24) 1⟩,
     ⟨(some 7), none, .act, .mv (.tmp 34)⟩,
     ⟨(some 8), none, .act, .mv (.tmp 35)⟩])
   (.seq (.region [
     ⟨(some 36), none, .act, .mv (.tmp 8)⟩,
     ⟨(some 37), none, .act, .eq false .int (.tmp 36) (.const (.int .i64 0))⟩])
   (.cond (.tmp 37)
    (.seq (.region [
      ⟨(some 38), none, .pure, .mv (.tmp 7)⟩,
      ⟨(some 39), none, .pure, .mv (.tmp 0)⟩,
      ⟨(some 40), none, .pure, .nilCheck (.tmp 39)⟩,
      ⟨(some 41), none, .pure, .fieldAddr 4 (.tmp 40)⟩,
      ⟨(some 42), none, .read, .load false 1 (.tmp 41)⟩,
      ⟨(some 43), none, .pure, .mv (.tmp 6)⟩,
      ⟨(some 44), none, .pure, .indexAddr 4 (.tmp 42) (.tmp 43)⟩,
      ⟨(some 45), none, .pure, .fieldAddr 0 (.tmp 44)⟩,
      ⟨(some 46), none, .read, .load false 1 (.tmp 45)⟩,
      ⟨(some 4), none, .pure, .mv (.tmp 38)⟩,
      ⟨(some 5), none, .pure, .mv (.tmp 46)⟩])
    .ret)
    .skip)))))
  (.region [
    ⟨(some 13), none, .act, .mv (.tmp 6)⟩,
    ⟨(some 14), none, .act, .bin .sub (.tmp 13) (.const (.int .i64 1))⟩,
    ⟨(some 6), none, .act, .mv (.tmp 14)⟩])))
/-- (*plenum/rlog.Log).upTo -/
def r64 : RCode :=
  (.seq (.region [
    ⟨(some 4), none, .act, .mv (.const (.slice none 0 0))⟩,
    ⟨(some 5), none, .act, .mv (.const (.int .u64 0))⟩])
  (.seq (.seq (.region [
    ⟨(some 9), none, .act, .mv (.tmp 1)⟩,
    ⟨(some 10), none, .act, .bin .sub (.tmp 9) (.const (.int .i64 1))⟩,
    ⟨(some 6), none, .act, .mv (.tmp 10)⟩])
  (.block 0
   (.loop r64l0)))
  (.seq (.region [
    ⟨(some 47), none, .pure, .mv (.tmp 0)⟩,
    ⟨(some 48), none, .pure, .nilCheck (.tmp 47)⟩,
    ⟨(some 49), none, .pure, .fieldAddr 0 (.tmp 48)⟩,
    ⟨(some 50), none, .pure, .fieldAddr 2 (.tmp 49)⟩,
    ⟨(some 51), none, .read, .load false 1 (.tmp 50)⟩,
    ⟨(some 52), none, .read, .call 90 [(.tmp 51)]⟩,
    ⟨(some 53), none, .pure, .mv (.tmp 0)⟩,
    ⟨(some 54), none, .pure, .nilCheck (.tmp 53)⟩,
    ⟨(some 55), none, .pure, .fieldAddr 0 (.tmp 54)⟩,
    ⟨(some 56), none, .pure, .fieldAddr 0 (.tmp 55)⟩,
    ⟨(some 57), none, .read, .load false 1 (.tmp 56)⟩,
    ⟨(some 4), none, .pure, .mv (.tmp 52)⟩,
    ⟨(some 5), none, .pure, .mv (.tmp 57)⟩])
  .ret)))
theorem res64 : ∃ c, Try.f64.body = some c ∧ resCode Try.prog 58 c = some r64 := ⟨_, rfl, by kernel_rfl⟩
theorem rr64 : resRes Try.prog Try.f64.results.toList = some [.tmp 4, .tmp 5] := by kernel_rfl
theorem upTo_loop (L : Log) (he : ∀ x ∈ L.l, x.data.length ≤ 140737488355328) (hl : L.l.length ≤ 549755813888) (p : Nat) (h : AHeap) (hp : h p = some (.box L.cells)) (k : List RT) (R0 : List UInt64 × UInt64)
    (hk : R0 = L.zero' → RRun Try.prog Try.f64 58 k (Env.get [(0, ptr p)]) h (Weak fun x h' => x = toldAns R0 ∧ h' = h)) (m : Nat) (hm : m ≤ L.l.length) :
    R0 = told L.zero' (L.l.take m) → 
      RRun Try.prog Try.f64 58 (.inLoop r64l0 :: .inBlock 0 :: k) (Env.get [(6, i64 ((m : Int) - 1)), (0, ptr p)]) h (Weak fun x h' => x = toldAns R0 ∧ h' = h) := by
  have hlen0 : (L.l.map Entry.cells).length = L.l.length := by simp
  induction m with
  | zero =>
    intro hR
    refine RRun.inLoop ?_
    repeat' (first
      | refine S.nilK ?_
      | (refine S.op rfl ?_; first
        | refine R.mv rfl ?_
        | refine R.fieldAddr rfl ?_
        | refine R.fieldAddrR rfl ?_
        | refine R.nilCheck rfl ?_
        | refine R.nilCheckR rfl ?_
        | refine R.loadR rfl rfl ?_
        | refine R.load (by decide) rfl (by (repeat' (first | assumption | exact AHeap.set_same _ _ _ | refine AHeap.get_fresh (by assumption) ?_ | refine AHeap.so ?_ ?_ | exact AHeap.n1 (by assumption) | exact AHeap.n2 (by assumption) | exact AHeap.ne_of (by assumption) (by assumption) | exact AHeap.n4 (by assumption) (by assumption) | exact AHeap.n5 (by assumption) | exact AHeap.n6 (by assumption) | exact AHeap.n7 (by assumption) (by assumption) | exact AHeap.n8 (by assumption) (by assumption))); first | done | fail) rfl ?_
        | refine S.addI rfl rfl (by omega) ?_
        | refine S.subI rfl rfl (by omega) ?_
        | refine S.addU rfl rfl ?_
        | refine S.subU rfl rfl ?_
        | refine S.addUc rfl (by decide) ?_
        | refine S.subUc rfl (by decide) ?_
        | refine S.arith rfl rfl rfl ?_
        | refine R.pickT rfl rfl ?_
        | refine R.pickF rfl rfl ?_
        | refine R.len rfl ?_
        | refine R.lenA rfl ?_
        | refine R.lenStr rfl ?_
        | refine S.convIU rfl (by omega) ?_
        | refine S.convUI rfl (by omega) ?_
        | refine R.convInt rfl ?_
        | refine R.not rfl ?_
        | refine R.eqPtrNil rfl rfl ?_
        | refine R.extract rfl rfl ?_
        | refine R.field rfl rfl ?_
        | refine R.alloc rfl (fun b hb => ?_)
        | refine R.box rfl rfl rfl (fun b hb => ?_)
        | refine R.build rfl rfl ?_
        | refine R.buildSl rfl rfl rfl (by decide) ?_
        | refine R.toStr rfl ?_
        | refine R.convStr rfl ?_
        | refine R.minmax rfl ?_
        | refine R.makeFunc rfl rfl ?_
        | (first | refine S.lss rfl rfl (fun hlt => ?_) (fun hlt => by exfalso; omega) | refine S.lss rfl rfl (fun hlt => by exfalso; omega) (fun hlt => ?_) | refine S.lss rfl rfl (fun hlt => ?_) (fun hlt => ?_))
        | (first | refine S.gtr rfl rfl (fun hlt => ?_) (fun hlt => by exfalso; omega) | refine S.gtr rfl rfl (fun hlt => by exfalso; omega) (fun hlt => ?_) | refine S.gtr rfl rfl (fun hlt => ?_) (fun hlt => ?_))
        | (first | refine S.leq rfl rfl (fun hlt => ?_) (fun hlt => by exfalso; omega) | refine S.leq rfl rfl (fun hlt => by exfalso; omega) (fun hlt => ?_) | refine S.leq rfl rfl (fun hlt => ?_) (fun hlt => ?_))
        | (first | refine S.geq rfl rfl (fun hlt => ?_) (fun hlt => by exfalso; omega) | refine S.geq rfl rfl (fun hlt => by exfalso; omega) (fun hlt => ?_) | refine S.geq rfl rfl (fun hlt => ?_) (fun hlt => ?_))
        | (first | refine S.eqInt rfl rfl (fun hlt => ?_) (fun hlt => by exfalso; omega) | refine S.eqInt rfl rfl (fun hlt => by exfalso; omega) (fun hlt => ?_) | refine S.eqInt rfl rfl (fun hlt => ?_) (fun hlt => ?_)))
      | (refine S.op0 rfl ?_; first | refine S.storeS rfl rfl rfl (by rfl) rfl (by first | decide | exact Nat.le_refl _ | exact Nat.le_of_ble_eq_true rfl) ?_ | refine S.store rfl rfl (by (repeat' (first | assumption | exact AHeap.set_same _ _ _ | refine AHeap.get_fresh (by assumption) ?_ | refine AHeap.so ?_ ?_ | exact AHeap.n1 (by assumption) | exact AHeap.n2 (by assumption) | exact AHeap.ne_of (by assumption) (by assumption) | exact AHeap.n4 (by assumption) (by assumption) | exact AHeap.n5 (by assumption) | exact AHeap.n6 (by assumption) | exact AHeap.n7 (by assumption) (by assumption) | exact AHeap.n8 (by assumption) (by assumption))); first | done | fail) rfl rfl rfl (by rfl) rfl ?_)
      | refine S.skip rfl ?_
      | refine S.skip0 rfl ?_
      | refine S.seq ?_
      | refine S.region ?_
      | refine S.regionT ?_
      | refine S.tstep ?_
      | refine S.talt ?_ ?_
      | exact S.tstop
      | refine S.tdone ?_
      | refine S.condT rfl ?_
      | refine S.condF rfl ?_
      | refine RRun.skip ?_
      | refine RRun.block ?_
      | refine RRun.inBlock ?_
      | refine RRun.exit rfl ?_)
    exact S.keep [0] rfl (hk hR)
  | succ m ih =>
    intro hR
    have hie : m < L.l.length := by omega
    have h1 : (L.l.map Entry.cells)[((m + 1 : Nat) - 1 : Int).toNat]? = some L.l[m].cells := by
      have : ((m + 1 : Nat) - 1 : Int).toNat = m := by omega
      rw [this]; simp [hie]
    have hd := he _ (List.getElem_mem hie)
    rw [told_succ _ _ _ hie] at hR
    have ih' := ih (by omega)
    clear ih
    generalize L.l[m] = e at h1 hR hd
    have c37 := of_spec e.data hd h
    refine RRun.inLoop ?_
    by_cases hkd : e.kind = 1
    · cases hM : ofM e.data with
      | some ms =>
        rw [hM] at c37
        replace c37 : ACalls Try.prog 37 [bys e.data] h (fun x h' => x = .tu [u64s ms, i64 0] ∧ h' = h) := c37
        have ht : tell1 (told L.zero' (L.l.take m)) e = (ms, e.index) := by simp [tell1, tells, hkd, hM]
        rw [ht] at hR
        subst hR
        repeat' (first
          | refine S.nilK ?_
          | (refine S.op rfl ?_; first
            | refine R.indexAddr rfl rfl (by omega) h1 ?_
            | refine R.callQ (by decide) rfl c37 ?_
            | refine R.mv rfl ?_
            | refine R.fieldAddr rfl ?_
            | refine R.fieldAddrR rfl ?_
            | refine R.nilCheck rfl ?_
            | refine R.nilCheckR rfl ?_
            | refine R.loadR rfl rfl ?_
            | refine R.load (by decide) rfl (by (repeat' (first | assumption | exact AHeap.set_same _ _ _ | refine AHeap.get_fresh (by assumption) ?_ | refine AHeap.so ?_ ?_ | exact AHeap.n1 (by assumption) | exact AHeap.n2 (by assumption) | exact AHeap.ne_of (by assumption) (by assumption) | exact AHeap.n4 (by assumption) (by assumption) | exact AHeap.n5 (by assumption) | exact AHeap.n6 (by assumption) | exact AHeap.n7 (by assumption) (by assumption) | exact AHeap.n8 (by assumption) (by assumption))); first | done | fail) rfl ?_
            | refine S.addI rfl rfl (by omega) ?_
            | refine S.subI rfl rfl (by omega) ?_
            | refine S.addU rfl rfl ?_
            | refine S.subU rfl rfl ?_
            | refine S.addUc rfl (by decide) ?_
            | refine S.subUc rfl (by decide) ?_
            | refine S.arith rfl rfl rfl ?_
            | refine R.pickT rfl rfl ?_
            | refine R.pickF rfl rfl ?_
            | refine R.len rfl ?_
            | refine R.lenA rfl ?_
            | refine R.lenStr rfl ?_
            | refine S.convIU rfl (by omega) ?_
            | refine S.convUI rfl (by omega) ?_
            | refine R.convInt rfl ?_
            | refine R.not rfl ?_
            | refine R.eqPtrNil rfl rfl ?_
            | refine R.extract rfl rfl ?_
            | refine R.field rfl rfl ?_
            | refine R.alloc rfl (fun b hb => ?_)
            | refine R.box rfl rfl rfl (fun b hb => ?_)
            | refine R.build rfl rfl ?_
            | refine R.buildSl rfl rfl rfl (by decide) ?_
            | refine R.toStr rfl ?_
            | refine R.convStr rfl ?_
            | refine R.minmax rfl ?_
            | refine R.makeFunc rfl rfl ?_
            | (first | refine S.lss rfl rfl (fun hlt => ?_) (fun hlt => by exfalso; omega) | refine S.lss rfl rfl (fun hlt => by exfalso; omega) (fun hlt => ?_) | refine S.lss rfl rfl (fun hlt => ?_) (fun hlt => ?_))
            | (first | refine S.gtr rfl rfl (fun hlt => ?_) (fun hlt => by exfalso; omega) | refine S.gtr rfl rfl (fun hlt => by exfalso; omega) (fun hlt => ?_) | refine S.gtr rfl rfl (fun hlt => ?_) (fun hlt => ?_))
            | (first | refine S.leq rfl rfl (fun hlt => ?_) (fun hlt => by exfalso; omega) | refine S.leq rfl rfl (fun hlt => by exfalso; omega) (fun hlt => ?_) | refine S.leq rfl rfl (fun hlt => ?_) (fun hlt => ?_))
            | (first | refine S.geq rfl rfl (fun hlt => ?_) (fun hlt => by exfalso; omega) | refine S.geq rfl rfl (fun hlt => by exfalso; omega) (fun hlt => ?_) | refine S.geq rfl rfl (fun hlt => ?_) (fun hlt => ?_))
            | (first | refine S.eqInt rfl rfl (fun hlt => ?_) (fun hlt => by exfalso; omega) | refine S.eqInt rfl rfl (fun hlt => by exfalso; omega) (fun hlt => ?_) | refine S.eqInt rfl rfl (fun hlt => ?_) (fun hlt => ?_)))
          | (refine S.op0 rfl ?_; first | refine S.storeS rfl rfl rfl (by rfl) rfl (by first | decide | exact Nat.le_refl _ | exact Nat.le_of_ble_eq_true rfl) ?_ | refine S.store rfl rfl (by (repeat' (first | assumption | exact AHeap.set_same _ _ _ | refine AHeap.get_fresh (by assumption) ?_ | refine AHeap.so ?_ ?_ | exact AHeap.n1 (by assumption) | exact AHeap.n2 (by assumption) | exact AHeap.ne_of (by assumption) (by assumption) | exact AHeap.n4 (by assumption) (by assumption) | exact AHeap.n5 (by assumption) | exact AHeap.n6 (by assumption) | exact AHeap.n7 (by assumption) (by assumption) | exact AHeap.n8 (by assumption) (by assumption))); first | done | fail) rfl rfl rfl (by rfl) rfl ?_)
          | refine S.skip rfl ?_
          | refine S.skip0 rfl ?_
          | refine S.seq ?_
          | refine S.region ?_
          | refine S.regionT ?_
          | refine S.tstep ?_
          | refine S.talt ?_ ?_
          | exact S.tstop
          | refine S.tdone ?_
          | refine S.condT rfl ?_
          | refine S.condF rfl ?_
          | refine RRun.skip ?_
          | refine RRun.block ?_
          | refine RRun.inBlock ?_
          | refine RRun.exit rfl ?_)
        apply S.ret rr64
        case hx => repeat (first | exact ResAt.nil | apply ResAt.tmp rfl | apply ResAt.cellA rfl (by (repeat' (first | assumption | exact AHeap.set_same _ _ _ | refine AHeap.get_fresh (by assumption) ?_ | refine AHeap.so ?_ ?_ | exact AHeap.n1 (by assumption) | exact AHeap.n2 (by assumption) | exact AHeap.ne_of (by assumption) (by assumption) | exact AHeap.n4 (by assumption) (by assumption) | exact AHeap.n5 (by assumption) | exact AHeap.n6 (by assumption) | exact AHeap.n7 (by assumption) (by assumption) | exact AHeap.n8 (by assumption) (by assumption))); first | done | fail) (by rfl) | apply ResAt.cell1 rfl (by (repeat' (first | assumption | exact AHeap.set_same _ _ _ | refine AHeap.get_fresh (by assumption) ?_ | refine AHeap.so ?_ ?_ | exact AHeap.n1 (by assumption) | exact AHeap.n2 (by assumption) | exact AHeap.ne_of (by assumption) (by assumption) | exact AHeap.n4 (by assumption) (by assumption) | exact AHeap.n5 (by assumption) | exact AHeap.n6 (by assumption) | exact AHeap.n7 (by assumption) (by assumption) | exact AHeap.n8 (by assumption) (by assumption))); first | done | fail) (by rfl))
        exact ⟨_, _, .refl _, .refl _, rfl, rfl⟩
      | none =>
        rw [hM] at c37
        replace c37 : ACalls Try.prog 37 [bys e.data] h (fun x h' => x = .tu [u64s [], i64 30] ∧ h' = h) := c37
        have ht : tell1 (told L.zero' (L.l.take m)) e = told L.zero' (L.l.take m) := by simp [tell1, tells, hkd, hM]
        rw [ht] at hR
        repeat' (first
          | refine S.nilK ?_
          | (refine S.op rfl ?_; first
            | refine R.indexAddr rfl rfl (by omega) h1 ?_
            | refine R.callQ (by decide) rfl c37 ?_
            | refine R.mv rfl ?_
            | refine R.fieldAddr rfl ?_
            | refine R.fieldAddrR rfl ?_
            | refine R.nilCheck rfl ?_
            | refine R.nilCheckR rfl ?_
            | refine R.loadR rfl rfl ?_
            | refine R.load (by decide) rfl (by (repeat' (first | assumption | exact AHeap.set_same _ _ _ | refine AHeap.get_fresh (by assumption) ?_ | refine AHeap.so ?_ ?_ | exact AHeap.n1 (by assumption) | exact AHeap.n2 (by assumption) | exact AHeap.ne_of (by assumption) (by assumption) | exact AHeap.n4 (by assumption) (by assumption) | exact AHeap.n5 (by assumption) | exact AHeap.n6 (by assumption) | exact AHeap.n7 (by assumption) (by assumption) | exact AHeap.n8 (by assumption) (by assumption))); first | done | fail) rfl ?_
            | refine S.addI rfl rfl (by omega) ?_
            | refine S.subI rfl rfl (by omega) ?_
            | refine S.addU rfl rfl ?_
            | refine S.subU rfl rfl ?_
            | refine S.addUc rfl (by decide) ?_
            | refine S.subUc rfl (by decide) ?_
            | refine S.arith rfl rfl rfl ?_
            | refine R.pickT rfl rfl ?_
            | refine R.pickF rfl rfl ?_
            | refine R.len rfl ?_
            | refine R.lenA rfl ?_
            | refine R.lenStr rfl ?_
            | refine S.convIU rfl (by omega) ?_
            | refine S.convUI rfl (by omega) ?_
            | refine R.convInt rfl ?_
            | refine R.not rfl ?_
            | refine R.eqPtrNil rfl rfl ?_
            | refine R.extract rfl rfl ?_
            | refine R.field rfl rfl ?_
            | refine R.alloc rfl (fun b hb => ?_)
            | refine R.box rfl rfl rfl (fun b hb => ?_)
            | refine R.build rfl rfl ?_
            | refine R.buildSl rfl rfl rfl (by decide) ?_
            | refine R.toStr rfl ?_
            | refine R.convStr rfl ?_
            | refine R.minmax rfl ?_
            | refine R.makeFunc rfl rfl ?_
            | (first | refine S.lss rfl rfl (fun hlt => ?_) (fun hlt => by exfalso; omega) | refine S.lss rfl rfl (fun hlt => by exfalso; omega) (fun hlt => ?_) | refine S.lss rfl rfl (fun hlt => ?_) (fun hlt => ?_))
            | (first | refine S.gtr rfl rfl (fun hlt => ?_) (fun hlt => by exfalso; omega) | refine S.gtr rfl rfl (fun hlt => by exfalso; omega) (fun hlt => ?_) | refine S.gtr rfl rfl (fun hlt => ?_) (fun hlt => ?_))
            | (first | refine S.leq rfl rfl (fun hlt => ?_) (fun hlt => by exfalso; omega) | refine S.leq rfl rfl (fun hlt => by exfalso; omega) (fun hlt => ?_) | refine S.leq rfl rfl (fun hlt => ?_) (fun hlt => ?_))
            | (first | refine S.geq rfl rfl (fun hlt => ?_) (fun hlt => by exfalso; omega) | refine S.geq rfl rfl (fun hlt => by exfalso; omega) (fun hlt => ?_) | refine S.geq rfl rfl (fun hlt => ?_) (fun hlt => ?_))
            | (first | refine S.eqInt rfl rfl (fun hlt => ?_) (fun hlt => by exfalso; omega) | refine S.eqInt rfl rfl (fun hlt => by exfalso; omega) (fun hlt => ?_) | refine S.eqInt rfl rfl (fun hlt => ?_) (fun hlt => ?_)))
          | (refine S.op0 rfl ?_; first | refine S.storeS rfl rfl rfl (by rfl) rfl (by first | decide | exact Nat.le_refl _ | exact Nat.le_of_ble_eq_true rfl) ?_ | refine S.store rfl rfl (by (repeat' (first | assumption | exact AHeap.set_same _ _ _ | refine AHeap.get_fresh (by assumption) ?_ | refine AHeap.so ?_ ?_ | exact AHeap.n1 (by assumption) | exact AHeap.n2 (by assumption) | exact AHeap.ne_of (by assumption) (by assumption) | exact AHeap.n4 (by assumption) (by assumption) | exact AHeap.n5 (by assumption) | exact AHeap.n6 (by assumption) | exact AHeap.n7 (by assumption) (by assumption) | exact AHeap.n8 (by assumption) (by assumption))); first | done | fail) rfl rfl rfl (by rfl) rfl ?_)
          | refine S.skip rfl ?_
          | refine S.skip0 rfl ?_
          | refine S.seq ?_
          | refine S.region ?_
          | refine S.regionT ?_
          | refine S.tstep ?_
          | refine S.talt ?_ ?_
          | exact S.tstop
          | refine S.tdone ?_
          | refine S.condT rfl ?_
          | refine S.condF rfl ?_
          | refine RRun.skip ?_
          | refine RRun.block ?_
          | refine RRun.inBlock ?_
          | refine RRun.exit rfl ?_)
        rw [show (((m + 1 : Nat) : Int) - 1 - 1) = (m : Int) - 1 by omega]
        exact S.keep [6, 0] rfl (ih' hR)
    · have ht : tell1 (told L.zero' (L.l.take m)) e = told L.zero' (L.l.take m) := by simp [tell1, tells, hkd]
      rw [ht] at hR
      repeat' (first
        | refine S.nilK ?_
        | (refine S.op rfl ?_; first
          | refine R.indexAddr rfl rfl (by omega) h1 ?_
          | refine R.mv rfl ?_
          | refine R.fieldAddr rfl ?_
          | refine R.fieldAddrR rfl ?_
          | refine R.nilCheck rfl ?_
          | refine R.nilCheckR rfl ?_
          | refine R.loadR rfl rfl ?_
          | refine R.load (by decide) rfl (by (repeat' (first | assumption | exact AHeap.set_same _ _ _ | refine AHeap.get_fresh (by assumption) ?_ | refine AHeap.so ?_ ?_ | exact AHeap.n1 (by assumption) | exact AHeap.n2 (by assumption) | exact AHeap.ne_of (by assumption) (by assumption) | exact AHeap.n4 (by assumption) (by assumption) | exact AHeap.n5 (by assumption) | exact AHeap.n6 (by assumption) | exact AHeap.n7 (by assumption) (by assumption) | exact AHeap.n8 (by assumption) (by assumption))); first | done | fail) rfl ?_
          | refine S.addI rfl rfl (by omega) ?_
          | refine S.subI rfl rfl (by omega) ?_
          | refine S.addU rfl rfl ?_
          | refine S.subU rfl rfl ?_
          | refine S.addUc rfl (by decide) ?_
          | refine S.subUc rfl (by decide) ?_
          | refine S.arith rfl rfl rfl ?_
          | refine R.pickT rfl rfl ?_
          | refine R.pickF rfl rfl ?_
          | refine R.len rfl ?_
          | refine R.lenA rfl ?_
          | refine R.lenStr rfl ?_
          | refine S.convIU rfl (by omega) ?_
          | refine S.convUI rfl (by omega) ?_
          | refine R.convInt rfl ?_
          | refine R.not rfl ?_
          | refine R.eqPtrNil rfl rfl ?_
          | refine R.extract rfl rfl ?_
          | refine R.field rfl rfl ?_
          | refine R.alloc rfl (fun b hb => ?_)
          | refine R.box rfl rfl rfl (fun b hb => ?_)
          | refine R.build rfl rfl ?_
          | refine R.buildSl rfl rfl rfl (by decide) ?_
          | refine R.toStr rfl ?_
          | refine R.convStr rfl ?_
          | refine R.minmax rfl ?_
          | refine R.makeFunc rfl rfl ?_
          | (first | refine S.lss rfl rfl (fun hlt => ?_) (fun hlt => by exfalso; omega) | refine S.lss rfl rfl (fun hlt => by exfalso; omega) (fun hlt => ?_) | refine S.lss rfl rfl (fun hlt => ?_) (fun hlt => ?_))
          | (first | refine S.gtr rfl rfl (fun hlt => ?_) (fun hlt => by exfalso; omega) | refine S.gtr rfl rfl (fun hlt => by exfalso; omega) (fun hlt => ?_) | refine S.gtr rfl rfl (fun hlt => ?_) (fun hlt => ?_))
          | (first | refine S.leq rfl rfl (fun hlt => ?_) (fun hlt => by exfalso; omega) | refine S.leq rfl rfl (fun hlt => by exfalso; omega) (fun hlt => ?_) | refine S.leq rfl rfl (fun hlt => ?_) (fun hlt => ?_))
          | (first | refine S.geq rfl rfl (fun hlt => ?_) (fun hlt => by exfalso; omega) | refine S.geq rfl rfl (fun hlt => by exfalso; omega) (fun hlt => ?_) | refine S.geq rfl rfl (fun hlt => ?_) (fun hlt => ?_))
          | (first | refine S.eqInt rfl rfl (fun hlt => ?_) (fun hlt => by exfalso; omega) | refine S.eqInt rfl rfl (fun hlt => by exfalso; omega) (fun hlt => ?_) | refine S.eqInt rfl rfl (fun hlt => ?_) (fun hlt => ?_)))
        | (refine S.op0 rfl ?_; first | refine S.storeS rfl rfl rfl (by rfl) rfl (by first | decide | exact Nat.le_refl _ | exact Nat.le_of_ble_eq_true rfl) ?_ | refine S.store rfl rfl (by (repeat' (first | assumption | exact AHeap.set_same _ _ _ | refine AHeap.get_fresh (by assumption) ?_ | refine AHeap.so ?_ ?_ | exact AHeap.n1 (by assumption) | exact AHeap.n2 (by assumption) | exact AHeap.ne_of (by assumption) (by assumption) | exact AHeap.n4 (by assumption) (by assumption) | exact AHeap.n5 (by assumption) | exact AHeap.n6 (by assumption) | exact AHeap.n7 (by assumption) (by assumption) | exact AHeap.n8 (by assumption) (by assumption))); first | done | fail) rfl rfl rfl (by rfl) rfl ?_)
        | refine S.skip rfl ?_
        | refine S.skip0 rfl ?_
        | refine S.seq ?_
        | refine S.region ?_
        | refine S.regionT ?_
        | refine S.tstep ?_
        | refine S.talt ?_ ?_
        | exact S.tstop
        | refine S.tdone ?_
        | refine S.condT rfl ?_
        | refine S.condF rfl ?_
        | refine RRun.skip ?_
        | refine RRun.block ?_
        | refine RRun.inBlock ?_
        | refine RRun.exit rfl ?_)
      rw [show (((m + 1 : Nat) : Int) - 1 - 1) = (m : Int) - 1 by omega]
      exact S.keep [6, 0] rfl (ih' hR)

theorem upTo_spec (L : Log) (he : ∀ x ∈ L.l, x.data.length ≤ 140737488355328) (hm : L.s.members.length ≤ 17592186044416) (n : Nat) (hn : n ≤ L.l.length) (hl : L.l.length ≤ 549755813888) (p : Nat) (h : AHeap) (hp : h p = some (.box L.cells)) :
    ACalls Try.prog 64 [ptr p, i64 n] h (fun x h' => x = toldAns (told L.zero' (L.l.take n)) ∧ h' = h) := by
  have c90 := clone64_spec L.s.members hm h
  obtain ⟨c, hc1, hc2⟩ := res64
  refine ACalls.weak (ACalls.enter Try.func64 hc1 Try.ntmps64 hc2 (Nat.le_of_ble_eq_true rfl) rfl ?_)
  repeat' (first
    | refine S.nilK ?_
    | (refine S.op rfl ?_; first
      | refine R.mv rfl ?_
      | refine R.fieldAddr rfl ?_
      | refine R.fieldAddrR rfl ?_
      | refine R.nilCheck rfl ?_
      | refine R.nilCheckR rfl ?_
      | refine R.loadR rfl rfl ?_
      | refine R.load (by decide) rfl (by (repeat' (first | assumption | exact AHeap.set_same _ _ _ | refine AHeap.get_fresh (by assumption) ?_ | refine AHeap.so ?_ ?_ | exact AHeap.n1 (by assumption) | exact AHeap.n2 (by assumption) | exact AHeap.ne_of (by assumption) (by assumption) | exact AHeap.n4 (by assumption) (by assumption) | exact AHeap.n5 (by assumption) | exact AHeap.n6 (by assumption) | exact AHeap.n7 (by assumption) (by assumption) | exact AHeap.n8 (by assumption) (by assumption))); first | done | fail) rfl ?_
      | refine S.addI rfl rfl (by omega) ?_
      | refine S.subI rfl rfl (by omega) ?_
      | refine S.addU rfl rfl ?_
      | refine S.subU rfl rfl ?_
      | refine S.addUc rfl (by decide) ?_
      | refine S.subUc rfl (by decide) ?_
      | refine S.arith rfl rfl rfl ?_
      | refine R.pickT rfl rfl ?_
      | refine R.pickF rfl rfl ?_
      | refine R.len rfl ?_
      | refine R.lenA rfl ?_
      | refine R.lenStr rfl ?_
      | refine S.convIU rfl (by omega) ?_
      | refine S.convUI rfl (by omega) ?_
      | refine R.convInt rfl ?_
      | refine R.not rfl ?_
      | refine R.eqPtrNil rfl rfl ?_
      | refine R.extract rfl rfl ?_
      | refine R.field rfl rfl ?_
      | refine R.alloc rfl (fun b hb => ?_)
      | refine R.box rfl rfl rfl (fun b hb => ?_)
      | refine R.build rfl rfl ?_
      | refine R.buildSl rfl rfl rfl (by decide) ?_
      | refine R.toStr rfl ?_
      | refine R.convStr rfl ?_
      | refine R.minmax rfl ?_
      | refine R.makeFunc rfl rfl ?_
      | (first | refine S.lss rfl rfl (fun hlt => ?_) (fun hlt => by exfalso; omega) | refine S.lss rfl rfl (fun hlt => by exfalso; omega) (fun hlt => ?_) | refine S.lss rfl rfl (fun hlt => ?_) (fun hlt => ?_))
      | (first | refine S.gtr rfl rfl (fun hlt => ?_) (fun hlt => by exfalso; omega) | refine S.gtr rfl rfl (fun hlt => by exfalso; omega) (fun hlt => ?_) | refine S.gtr rfl rfl (fun hlt => ?_) (fun hlt => ?_))
      | (first | refine S.leq rfl rfl (fun hlt => ?_) (fun hlt => by exfalso; omega) | refine S.leq rfl rfl (fun hlt => by exfalso; omega) (fun hlt => ?_) | refine S.leq rfl rfl (fun hlt => ?_) (fun hlt => ?_))
      | (first | refine S.geq rfl rfl (fun hlt => ?_) (fun hlt => by exfalso; omega) | refine S.geq rfl rfl (fun hlt => by exfalso; omega) (fun hlt => ?_) | refine S.geq rfl rfl (fun hlt => ?_) (fun hlt => ?_))
      | (first | refine S.eqInt rfl rfl (fun hlt => ?_) (fun hlt => by exfalso; omega) | refine S.eqInt rfl rfl (fun hlt => by exfalso; omega) (fun hlt => ?_) | refine S.eqInt rfl rfl (fun hlt => ?_) (fun hlt => ?_)))
    | (refine S.op0 rfl ?_; first | refine S.storeS rfl rfl rfl (by rfl) rfl (by first | decide | exact Nat.le_refl _ | exact Nat.le_of_ble_eq_true rfl) ?_ | refine S.store rfl rfl (by (repeat' (first | assumption | exact AHeap.set_same _ _ _ | refine AHeap.get_fresh (by assumption) ?_ | refine AHeap.so ?_ ?_ | exact AHeap.n1 (by assumption) | exact AHeap.n2 (by assumption) | exact AHeap.ne_of (by assumption) (by assumption) | exact AHeap.n4 (by assumption) (by assumption) | exact AHeap.n5 (by assumption) | exact AHeap.n6 (by assumption) | exact AHeap.n7 (by assumption) (by assumption) | exact AHeap.n8 (by assumption) (by assumption))); first | done | fail) rfl rfl rfl (by rfl) rfl ?_)
    | refine S.skip rfl ?_
    | refine S.skip0 rfl ?_
    | refine S.seq ?_
    | refine S.region ?_
    | refine S.regionT ?_
    | refine S.tstep ?_
    | refine S.talt ?_ ?_
    | exact S.tstop
    | refine S.tdone ?_
    | refine S.condT rfl ?_
    | refine S.condF rfl ?_
    | refine RRun.skip ?_
    | refine RRun.block ?_
    | refine RRun.inBlock ?_
    | refine RRun.exit rfl ?_)
  refine RRun.loopIn (S.keep [6, 0] rfl (upTo_loop L he hl p h hp _ _ ?_ n hn rfl))
  intro hR
  rw [hR]
  repeat' (first
    | refine S.nilK ?_
    | (refine S.op rfl ?_; first
      | refine R.callQ (by decide) rfl c90 ?_
      | refine R.mv rfl ?_
      | refine R.fieldAddr rfl ?_
      | refine R.fieldAddrR rfl ?_
      | refine R.nilCheck rfl ?_
      | refine R.nilCheckR rfl ?_
      | refine R.loadR rfl rfl ?_
      | refine R.load (by decide) rfl (by (repeat' (first | assumption | exact AHeap.set_same _ _ _ | refine AHeap.get_fresh (by assumption) ?_ | refine AHeap.so ?_ ?_ | exact AHeap.n1 (by assumption) | exact AHeap.n2 (by assumption) | exact AHeap.ne_of (by assumption) (by assumption) | exact AHeap.n4 (by assumption) (by assumption) | exact AHeap.n5 (by assumption) | exact AHeap.n6 (by assumption) | exact AHeap.n7 (by assumption) (by assumption) | exact AHeap.n8 (by assumption) (by assumption))); first | done | fail) rfl ?_
      | refine S.addI rfl rfl (by omega) ?_
      | refine S.subI rfl rfl (by omega) ?_
      | refine S.addU rfl rfl ?_
      | refine S.subU rfl rfl ?_
      | refine S.addUc rfl (by decide) ?_
      | refine S.subUc rfl (by decide) ?_
      | refine S.arith rfl rfl rfl ?_
      | refine R.pickT rfl rfl ?_
      | refine R.pickF rfl rfl ?_
      | refine R.len rfl ?_
      | refine R.lenA rfl ?_
      | refine R.lenStr rfl ?_
      | refine S.convIU rfl (by omega) ?_
      | refine S.convUI rfl (by omega) ?_
      | refine R.convInt rfl ?_
      | refine R.not rfl ?_
      | refine R.eqPtrNil rfl rfl ?_
      | refine R.extract rfl rfl ?_
      | refine R.field rfl rfl ?_
      | refine R.alloc rfl (fun b hb => ?_)
      | refine R.box rfl rfl rfl (fun b hb => ?_)
      | refine R.build rfl rfl ?_
      | refine R.buildSl rfl rfl rfl (by decide) ?_
      | refine R.toStr rfl ?_
      | refine R.convStr rfl ?_
      | refine R.minmax rfl ?_
      | refine R.makeFunc rfl rfl ?_
      | (first | refine S.lss rfl rfl (fun hlt => ?_) (fun hlt => by exfalso; omega) | refine S.lss rfl rfl (fun hlt => by exfalso; omega) (fun hlt => ?_) | refine S.lss rfl rfl (fun hlt => ?_) (fun hlt => ?_))
      | (first | refine S.gtr rfl rfl (fun hlt => ?_) (fun hlt => by exfalso; omega) | refine S.gtr rfl rfl (fun hlt => by exfalso; omega) (fun hlt => ?_) | refine S.gtr rfl rfl (fun hlt => ?_) (fun hlt => ?_))
      | (first | refine S.leq rfl rfl (fun hlt => ?_) (fun hlt => by exfalso; omega) | refine S.leq rfl rfl (fun hlt => by exfalso; omega) (fun hlt => ?_) | refine S.leq rfl rfl (fun hlt => ?_) (fun hlt => ?_))
      | (first | refine S.geq rfl rfl (fun hlt => ?_) (fun hlt => by exfalso; omega) | refine S.geq rfl rfl (fun hlt => by exfalso; omega) (fun hlt => ?_) | refine S.geq rfl rfl (fun hlt => ?_) (fun hlt => ?_))
      | (first | refine S.eqInt rfl rfl (fun hlt => ?_) (fun hlt => by exfalso; omega) | refine S.eqInt rfl rfl (fun hlt => by exfalso; omega) (fun hlt => ?_) | refine S.eqInt rfl rfl (fun hlt => ?_) (fun hlt => ?_)))
    | (refine S.op0 rfl ?_; first | refine S.storeS rfl rfl rfl (by rfl) rfl (by first | decide | exact Nat.le_refl _ | exact Nat.le_of_ble_eq_true rfl) ?_ | refine S.store rfl rfl (by (repeat' (first | assumption | exact AHeap.set_same _ _ _ | refine AHeap.get_fresh (by assumption) ?_ | refine AHeap.so ?_ ?_ | exact AHeap.n1 (by assumption) | exact AHeap.n2 (by assumption) | exact AHeap.ne_of (by assumption) (by assumption) | exact AHeap.n4 (by assumption) (by assumption) | exact AHeap.n5 (by assumption) | exact AHeap.n6 (by assumption) | exact AHeap.n7 (by assumption) (by assumption) | exact AHeap.n8 (by assumption) (by assumption))); first | done | fail) rfl rfl rfl (by rfl) rfl ?_)
    | refine S.skip rfl ?_
    | refine S.skip0 rfl ?_
    | refine S.seq ?_
    | refine S.region ?_
    | refine S.regionT ?_
    | refine S.tstep ?_
    | refine S.talt ?_ ?_
    | exact S.tstop
    | refine S.tdone ?_
    | refine S.condT rfl ?_
    | refine S.condF rfl ?_
    | refine RRun.skip ?_
    | refine RRun.block ?_
    | refine RRun.inBlock ?_
    | refine RRun.exit rfl ?_)
  apply S.ret rr64
  case hx => repeat (first | exact ResAt.nil | apply ResAt.tmp rfl | apply ResAt.cellA rfl (by (repeat' (first | assumption | exact AHeap.set_same _ _ _ | refine AHeap.get_fresh (by assumption) ?_ | refine AHeap.so ?_ ?_ | exact AHeap.n1 (by assumption) | exact AHeap.n2 (by assumption) | exact AHeap.ne_of (by assumption) (by assumption) | exact AHeap.n4 (by assumption) (by assumption) | exact AHeap.n5 (by assumption) | exact AHeap.n6 (by assumption) | exact AHeap.n7 (by assumption) (by assumption) | exact AHeap.n8 (by assumption) (by assumption))); first | done | fail) (by rfl) | apply ResAt.cell1 rfl (by (repeat' (first | assumption | exact AHeap.set_same _ _ _ | refine AHeap.get_fresh (by assumption) ?_ | refine AHeap.so ?_ ?_ | exact AHeap.n1 (by assumption) | exact AHeap.n2 (by assumption) | exact AHeap.ne_of (by assumption) (by assumption) | exact AHeap.n4 (by assumption) (by assumption) | exact AHeap.n5 (by assumption) | exact AHeap.n6 (by assumption) | exact AHeap.n7 (by assumption) (by assumption) | exact AHeap.n8 (by assumption) (by assumption))); first | done | fail) (by rfl))
  exact ⟨_, _, .refl _, .refl _, rfl, rfl⟩

/-- (*plenum/rlog.Log).Members -/
def r71 : RCode :=
  (.seq (.region [
    ⟨(some 2), none, .act, .mv (.const (.slice none 0 0))⟩,
    ⟨(some 3), none, .act, .mv (.const (.int .u64 0))⟩])
  (.seq (.seq (.region [
    ⟨(some 4), none, .act, .mv (.tmp 0)⟩,
    ⟨(some 5), none, .act, .eq false .ptr (.tmp 4) (.const (.pointer none))⟩])
  (.cond (.tmp 5)
   (.seq (.region [
     ⟨(some 2), none, .act, .mv (.const (.slice none 0 0))⟩,
     ⟨(some 3), none, .act, .mv (.const (.int .u64 0))⟩])
   .ret)
   .skip))
  (.seq (.region [
    ⟨(some 6), none, .act, .mv (.tmp 0)⟩,
    ⟨(some 7), none, .act, .mv (.tmp 0)⟩,
    ⟨(some 8), none, .act, .nilCheck (.tmp 7)⟩,
    ⟨(some 9), none, .act, .fieldAddr 4 (.tmp 8)⟩,
    ⟨(some 10), none, .act, .load false 1 (.tmp 9)⟩,
    ⟨(some 11), none, .act, .len (.tmp 10)⟩,
    ⟨(some 12), none, .act, .call 64 [(.tmp 6), (.tmp 11)]⟩,
    ⟨(some 13), none, .act, .extract (.tmp 12) 0⟩,
    ⟨(some 14), none, .act, .extract (.tmp 12) 1⟩,
    ⟨(some 2), none, .act, .mv (.tmp 13)⟩,
    ⟨(some 3), none, .act, .mv (.tmp 14)⟩])
  .ret)))
theorem res71 : ∃ c, Try.f71.body = some c ∧ resCode Try.prog 15 c = some r71 := ⟨_, rfl, by kernel_rfl⟩
theorem rr71 : resRes Try.prog Try.f71.results.toList = some [.tmp 2, .tmp 3] := by kernel_rfl
theorem members_spec (L : Log) (he : ∀ x ∈ L.l, x.data.length ≤ 140737488355328) (hm : L.s.members.length ≤ 17592186044416) (hl : L.l.length ≤ 549755813888) (p : Nat) (h : AHeap) (hp : h p = some (.box L.cells)) :
    ACalls Try.prog 71 [ptr p] h (fun x h' => x = toldAns (told L.zero' L.l) ∧ h' = h) := by
  have hlen0 : (L.l.map Entry.cells).length = L.l.length := by simp
  have c64 := upTo_spec L he hm L.l.length (Nat.le_refl _) hl p h hp
  rw [List.take_length] at c64
  rw [← hlen0] at c64
  obtain ⟨c, hc1, hc2⟩ := res71
  refine ACalls.enter Try.func71 hc1 Try.ntmps71 hc2 (Nat.le_of_ble_eq_true rfl) rfl ?_
  repeat' (first
    | refine S.nilK ?_
    | (refine S.op rfl ?_; first
      | refine R.callQ (by decide) rfl c64 ?_
      | refine R.mv rfl ?_
      | refine R.fieldAddr rfl ?_
      | refine R.fieldAddrR rfl ?_
      | refine R.nilCheck rfl ?_
      | refine R.nilCheckR rfl ?_
      | refine R.loadR rfl rfl ?_
      | refine R.load (by decide) rfl (by (repeat' (first | assumption | exact AHeap.set_same _ _ _ | refine AHeap.get_fresh (by assumption) ?_ | refine AHeap.so ?_ ?_ | exact AHeap.n1 (by assumption) | exact AHeap.n2 (by assumption) | exact AHeap.ne_of (by assumption) (by assumption) | exact AHeap.n4 (by assumption) (by assumption) | exact AHeap.n5 (by assumption) | exact AHeap.n6 (by assumption) | exact AHeap.n7 (by assumption) (by assumption) | exact AHeap.n8 (by assumption) (by assumption))); first | done | fail) rfl ?_
      | refine S.addI rfl rfl (by omega) ?_
      | refine S.subI rfl rfl (by omega) ?_
      | refine S.addU rfl rfl ?_
      | refine S.subU rfl rfl ?_
      | refine S.addUc rfl (by decide) ?_
      | refine S.subUc rfl (by decide) ?_
      | refine S.arith rfl rfl rfl ?_
      | refine R.pickT rfl rfl ?_
      | refine R.pickF rfl rfl ?_
      | refine R.len rfl ?_
      | refine R.lenA rfl ?_
      | refine R.lenStr rfl ?_
      | refine S.convIU rfl (by omega) ?_
      | refine S.convUI rfl (by omega) ?_
      | refine R.convInt rfl ?_
      | refine R.not rfl ?_
      | refine R.eqPtrNil rfl rfl ?_
      | refine R.extract rfl rfl ?_
      | refine R.field rfl rfl ?_
      | refine R.alloc rfl (fun b hb => ?_)
      | refine R.box rfl rfl rfl (fun b hb => ?_)
      | refine R.build rfl rfl ?_
      | refine R.buildSl rfl rfl rfl (by decide) ?_
      | refine R.toStr rfl ?_
      | refine R.convStr rfl ?_
      | refine R.minmax rfl ?_
      | refine R.makeFunc rfl rfl ?_
      | (first | refine S.lss rfl rfl (fun hlt => ?_) (fun hlt => by exfalso; omega) | refine S.lss rfl rfl (fun hlt => by exfalso; omega) (fun hlt => ?_) | refine S.lss rfl rfl (fun hlt => ?_) (fun hlt => ?_))
      | (first | refine S.gtr rfl rfl (fun hlt => ?_) (fun hlt => by exfalso; omega) | refine S.gtr rfl rfl (fun hlt => by exfalso; omega) (fun hlt => ?_) | refine S.gtr rfl rfl (fun hlt => ?_) (fun hlt => ?_))
      | (first | refine S.leq rfl rfl (fun hlt => ?_) (fun hlt => by exfalso; omega) | refine S.leq rfl rfl (fun hlt => by exfalso; omega) (fun hlt => ?_) | refine S.leq rfl rfl (fun hlt => ?_) (fun hlt => ?_))
      | (first | refine S.geq rfl rfl (fun hlt => ?_) (fun hlt => by exfalso; omega) | refine S.geq rfl rfl (fun hlt => by exfalso; omega) (fun hlt => ?_) | refine S.geq rfl rfl (fun hlt => ?_) (fun hlt => ?_))
      | (first | refine S.eqInt rfl rfl (fun hlt => ?_) (fun hlt => by exfalso; omega) | refine S.eqInt rfl rfl (fun hlt => by exfalso; omega) (fun hlt => ?_) | refine S.eqInt rfl rfl (fun hlt => ?_) (fun hlt => ?_)))
    | (refine S.op0 rfl ?_; first | refine S.storeS rfl rfl rfl (by rfl) rfl (by first | decide | exact Nat.le_refl _ | exact Nat.le_of_ble_eq_true rfl) ?_ | refine S.store rfl rfl (by (repeat' (first | assumption | exact AHeap.set_same _ _ _ | refine AHeap.get_fresh (by assumption) ?_ | refine AHeap.so ?_ ?_ | exact AHeap.n1 (by assumption) | exact AHeap.n2 (by assumption) | exact AHeap.ne_of (by assumption) (by assumption) | exact AHeap.n4 (by assumption) (by assumption) | exact AHeap.n5 (by assumption) | exact AHeap.n6 (by assumption) | exact AHeap.n7 (by assumption) (by assumption) | exact AHeap.n8 (by assumption) (by assumption))); first | done | fail) rfl rfl rfl (by rfl) rfl ?_)
    | refine S.skip rfl ?_
    | refine S.skip0 rfl ?_
    | refine S.seq ?_
    | refine S.region ?_
    | refine S.regionT ?_
    | refine S.tstep ?_
    | refine S.talt ?_ ?_
    | exact S.tstop
    | refine S.tdone ?_
    | refine S.condT rfl ?_
    | refine S.condF rfl ?_
    | refine RRun.skip ?_
    | refine RRun.block ?_
    | refine RRun.inBlock ?_
    | refine RRun.exit rfl ?_)
  apply S.ret rr71
  case hx => repeat (first | exact ResAt.nil | apply ResAt.tmp rfl | apply ResAt.cellA rfl (by (repeat' (first | assumption | exact AHeap.set_same _ _ _ | refine AHeap.get_fresh (by assumption) ?_ | refine AHeap.so ?_ ?_ | exact AHeap.n1 (by assumption) | exact AHeap.n2 (by assumption) | exact AHeap.ne_of (by assumption) (by assumption) | exact AHeap.n4 (by assumption) (by assumption) | exact AHeap.n5 (by assumption) | exact AHeap.n6 (by assumption) | exact AHeap.n7 (by assumption) (by assumption) | exact AHeap.n8 (by assumption) (by assumption))); first | done | fail) (by rfl) | apply ResAt.cell1 rfl (by (repeat' (first | assumption | exact AHeap.set_same _ _ _ | refine AHeap.get_fresh (by assumption) ?_ | refine AHeap.so ?_ ?_ | exact AHeap.n1 (by assumption) | exact AHeap.n2 (by assumption) | exact AHeap.ne_of (by assumption) (by assumption) | exact AHeap.n4 (by assumption) (by assumption) | exact AHeap.n5 (by assumption) | exact AHeap.n6 (by assumption) | exact AHeap.n7 (by assumption) (by assumption) | exact AHeap.n8 (by assumption) (by assumption))); first | done | fail) (by rfl))
  exact ⟨rfl, rfl⟩

def r68l0 : RCode :=
  (.seq (.region [
    ⟨(some 28), none, .act, .bin .lss (.tmp 27) (.tmp 26)⟩])
  (.seq (.cond (.tmp 28)
   .skip
   (.exit 0))
  (.seq (.block 1
   (.seq (.region [
     ⟨(some 29), none, .act, .indexAddr 4 (.tmp 25) (.tmp 27)⟩,
     ⟨(some 30), none, .act, .load true 4 (.tmp 29)⟩,
     ⟨(some 9), none, .act, .alloc [(.int .u64 0), (.int .u64 0), (.int .i64 0), (.slice none 0 0)]⟩,
     ⟨none, none, .act, .store 4 (.tmp 9) (.tmp 30)⟩])
   (.seq (.seq (.region [
     ⟨(some 31), none, .act, .fieldAddr 2 (.tmp 9)⟩,
     ⟨(some 32), none, .act, .load false 1 (.tmp 31)⟩,
     ⟨(some 33), none, .act, .eq true .int (.tmp 32) (.const (.int .i64 1))⟩,
     ⟨(some 34), none, .act, .mv (.tmp 33)⟩,
     ⟨(some 35), (some (34, false)), .act, .fieldAddr 0 (.tmp 9)⟩,
     ⟨(some 36), (some (34, false)), .act, .load false 1 (.tmp 35)⟩,
     ⟨(some 37), (some (34, false)), .act, .mv (.tmp 1)⟩,
     ⟨(some 38), (some (34, false)), .act, .bin .gtr (.tmp 36) (.tmp 37)⟩,
     ⟨(some 39), none, .act, .pick (.tmp 34) (.const (.bool true)) (.tmp 38)⟩])
   (.cond (.tmp 39)
    (.exit 1)
    .skip))
   (.seq (.region [
     ⟨(some 41), none, .act, .fieldAddr 3 (.tmp 9)⟩,
     ⟨(some 42), none, .act, .load false 1 (.tmp 41)⟩,
     ⟨(some 43), none, .act, .call 38 [(.tmp 42)]⟩,
     ⟨(some 40), none, .act, .mv (.tmp 43)⟩,
     ⟨(some 44), none, .act, .extract (.tmp 40) 0⟩,
     ⟨(some 45), none, .act, .extract (.tmp 40) 1⟩,
     ⟨(some 10), none, .act, .mv (.tmp 44)⟩,
     ⟨(some 11), none, .act, .mv (.tmp 45)⟩])
   (.seq (.region [
     ⟨(some 46), none, .act, .mv (.tmp 11)⟩,
     ⟨(some 47), none, .act, .eq false .int (.tmp 46) (.const (.int .i64 0))⟩])
   (.cond (.tmp 47)
    (.region [
      ⟨(some 48), none, .pure, .mv (.tmp 10)⟩,
      ⟨(some 49), none, .pure, .fieldAddr 0 (.tmp 9)⟩,
      ⟨(some 50), none, .read, .load false 1 (.tmp 49)⟩,
      ⟨(some 6), none, .pure, .mv (.tmp 48)⟩,
      ⟨(some 7), none, .pure, .mv (.tmp 50)⟩])
    .skip))))))
  (.region [
    ⟨(some 51), none, .act, .bin .add (.tmp 27) (.const (.int .i64 1))⟩,
    ⟨(some 27), none, .act, .mv (.tmp 51)⟩]))))
/-- (*plenum/plenumref06.Log).told -/
def r68 : RCode :=
  (.seq (.region [
    ⟨(some 4), none, .act, .mv (.const (.slice none 0 0))⟩,
    ⟨(some 5), none, .act, .mv (.const (.int .u64 0))⟩])
  (.seq (.region [
    ⟨(some 12), none, .pure, .mv (.tmp 0)⟩,
    ⟨(some 13), none, .pure, .nilCheck (.tmp 12)⟩,
    ⟨(some 14), none, .pure, .fieldAddr 0 (.tmp 13)⟩,
    ⟨(some 15), none, .pure, .fieldAddr 2 (.tmp 14)⟩,
    ⟨(some 16), none, .read, .load false 1 (.tmp 15)⟩,
    ⟨(some 17), none, .pure, .mv (.tmp 0)⟩,
    ⟨(some 18), none, .pure, .nilCheck (.tmp 17)⟩,
    ⟨(some 19), none, .pure, .fieldAddr 0 (.tmp 18)⟩,
    ⟨(some 20), none, .pure, .fieldAddr 0 (.tmp 19)⟩,
    ⟨(some 21), none, .read, .load false 1 (.tmp 20)⟩,
    ⟨(some 6), none, .pure, .mv (.tmp 16)⟩,
    ⟨(some 7), none, .pure, .mv (.tmp 21)⟩])
  (.seq (.seq (.region [
    ⟨(some 22), none, .act, .mv (.tmp 0)⟩,
    ⟨(some 23), none, .act, .nilCheck (.tmp 22)⟩,
    ⟨(some 24), none, .act, .fieldAddr 4 (.tmp 23)⟩,
    ⟨(some 25), none, .act, .load false 1 (.tmp 24)⟩,
    ⟨(some 26), none, .act, .len (.tmp 25)⟩,
    ⟨(some 27), none, .act, .mv (.const (.int .i64 0))⟩])
  (.block 0
   (.loop r68l0)))
  (.seq (.region [
    ⟨(some 52), none, .act, .mv (.tmp 6)⟩,
    ⟨(some 53), none, .act, .mv (.tmp 7)⟩,
    ⟨(some 4), none, .act, .mv (.tmp 52)⟩,
    ⟨(some 5), none, .act, .mv (.tmp 53)⟩])
  .ret))))
theorem res68 : ∃ c, Try.f68.body = some c ∧ resCode Try.prog 54 c = some r68 := ⟨_, rfl, by kernel_rfl⟩
theorem rr68 : resRes Try.prog Try.f68.results.toList = some [.tmp 4, .tmp 5] := by kernel_rfl
theorem told_loop (L : Log) (he : ∀ x ∈ L.l, x.data.length ≤ 140737488355328) (hl : L.l.length ≤ 549755813888) (to : UInt64) (h₀ : AHeap) (k : List RT) (Q : AV → AHeap → Prop) (R0 : List UInt64 × UInt64)
    (hk : ∀ h, h₀.le h → RRun Try.prog Try.f68 54 k (Env.get [(6, u64s R0.1), (7, u64 R0.2)]) h Q) (m : Nat) :
    ∀ (i : Nat) (d : List UInt64 × UInt64) (h : AHeap), i + m = L.l.length → h₀.le h → R0 = told d ((L.l.drop i).filter fun e => decide (e.index ≤ to)) →
      RRun Try.prog Try.f68 54 (.inLoop r68l0 :: .inBlock 0 :: k) (Env.get [(27, i64 i), (26, i64 L.l.length), (25, entries L.l), (6, u64s d.1), (7, u64 d.2), (1, u64 to)]) h Q := by
  have hlen0 : (L.l.map Entry.cells).length = L.l.length := by simp
  induction m with
  | zero =>
    intro i d h hi hg hR
    rw [List.drop_of_length_le (by omega)] at hR
    replace hR : R0 = d := hR
    subst hR
    refine RRun.inLoop ?_
    repeat' (first
      | refine S.nilK ?_
      | (refine S.op rfl ?_; first
        | refine R.mv rfl ?_
        | refine R.fieldAddr rfl ?_
        | refine R.fieldAddrR rfl ?_
        | refine R.nilCheck rfl ?_
        | refine R.nilCheckR rfl ?_
        | refine R.loadR rfl rfl ?_
        | refine R.load (by decide) rfl (by (repeat' (first | assumption | exact AHeap.set_same _ _ _ | refine AHeap.get_fresh (by assumption) ?_ | refine AHeap.so ?_ ?_ | exact AHeap.n1 (by assumption) | exact AHeap.n2 (by assumption) | exact AHeap.ne_of (by assumption) (by assumption) | exact AHeap.n4 (by assumption) (by assumption) | exact AHeap.n5 (by assumption) | exact AHeap.n6 (by assumption) | exact AHeap.n7 (by assumption) (by assumption) | exact AHeap.n8 (by assumption) (by assumption))); first | done | fail) rfl ?_
        | refine S.addI rfl rfl (by omega) ?_
        | refine S.subI rfl rfl (by omega) ?_
        | refine S.addU rfl rfl ?_
        | refine S.subU rfl rfl ?_
        | refine S.addUc rfl (by decide) ?_
        | refine S.subUc rfl (by decide) ?_
        | refine S.arith rfl rfl rfl ?_
        | refine R.pickT rfl rfl ?_
        | refine R.pickF rfl rfl ?_
        | refine R.len rfl ?_
        | refine R.lenA rfl ?_
        | refine R.lenStr rfl ?_
        | refine S.convIU rfl (by omega) ?_
        | refine S.convUI rfl (by omega) ?_
        | refine R.convInt rfl ?_
        | refine R.not rfl ?_
        | refine R.eqPtrNil rfl rfl ?_
        | refine R.extract rfl rfl ?_
        | refine R.field rfl rfl ?_
        | refine R.alloc rfl (fun b hb => ?_)
        | refine R.box rfl rfl rfl (fun b hb => ?_)
        | refine R.build rfl rfl ?_
        | refine R.buildSl rfl rfl rfl (by decide) ?_
        | refine R.toStr rfl ?_
        | refine R.convStr rfl ?_
        | refine R.minmax rfl ?_
        | refine R.makeFunc rfl rfl ?_
        | (first | refine S.lss rfl rfl (fun hlt => ?_) (fun hlt => by exfalso; omega) | refine S.lss rfl rfl (fun hlt => by exfalso; omega) (fun hlt => ?_) | refine S.lss rfl rfl (fun hlt => ?_) (fun hlt => ?_))
        | (first | refine S.gtr rfl rfl (fun hlt => ?_) (fun hlt => by exfalso; omega) | refine S.gtr rfl rfl (fun hlt => by exfalso; omega) (fun hlt => ?_) | refine S.gtr rfl rfl (fun hlt => ?_) (fun hlt => ?_))
        | (first | refine S.leq rfl rfl (fun hlt => ?_) (fun hlt => by exfalso; omega) | refine S.leq rfl rfl (fun hlt => by exfalso; omega) (fun hlt => ?_) | refine S.leq rfl rfl (fun hlt => ?_) (fun hlt => ?_))
        | (first | refine S.geq rfl rfl (fun hlt => ?_) (fun hlt => by exfalso; omega) | refine S.geq rfl rfl (fun hlt => by exfalso; omega) (fun hlt => ?_) | refine S.geq rfl rfl (fun hlt => ?_) (fun hlt => ?_))
        | (first | refine S.eqInt rfl rfl (fun hlt => ?_) (fun hlt => by exfalso; omega) | refine S.eqInt rfl rfl (fun hlt => by exfalso; omega) (fun hlt => ?_) | refine S.eqInt rfl rfl (fun hlt => ?_) (fun hlt => ?_)))
      | (refine S.op0 rfl ?_; first | refine S.storeS rfl rfl rfl (by rfl) rfl (by first | decide | exact Nat.le_refl _ | exact Nat.le_of_ble_eq_true rfl) ?_ | refine S.store rfl rfl (by (repeat' (first | assumption | exact AHeap.set_same _ _ _ | refine AHeap.get_fresh (by assumption) ?_ | refine AHeap.so ?_ ?_ | exact AHeap.n1 (by assumption) | exact AHeap.n2 (by assumption) | exact AHeap.ne_of (by assumption) (by assumption) | exact AHeap.n4 (by assumption) (by assumption) | exact AHeap.n5 (by assumption) | exact AHeap.n6 (by assumption) | exact AHeap.n7 (by assumption) (by assumption) | exact AHeap.n8 (by assumption) (by assumption))); first | done | fail) rfl rfl rfl (by rfl) rfl ?_)
      | refine S.skip rfl ?_
      | refine S.skip0 rfl ?_
      | refine S.seq ?_
      | refine S.region ?_
      | refine S.regionT ?_
      | refine S.tstep ?_
      | refine S.talt ?_ ?_
      | exact S.tstop
      | refine S.tdone ?_
      | refine S.condT rfl ?_
      | refine S.condF rfl ?_
      | refine RRun.skip ?_
      | refine RRun.block ?_
      | refine RRun.inBlock ?_
      | refine RRun.exit rfl ?_)
    exact S.keep [6, 7] rfl (hk h hg)
  | succ m ih =>
    intro i d h hi hg hR
    have hie : i < L.l.length := by omega
    have h1 : (L.l.map Entry.cells)[((i : Nat) : Int).toNat]? = some L.l[i].cells := by simp [hie]
    have hd := he _ (List.getElem_mem hie)
    rw [List.drop_eq_getElem_cons hie] at hR
    have ih' := fun d h => ih (i + 1) d h (by omega)
    clear ih
    generalize L.l[i] = e at h1 hR hd
    have c38 := fun h => mof_spec e.data hd h
    refine RRun.inLoop ?_
    by_cases hto : e.index ≤ to
    · have hto2 := UInt64.le_iff_toNat_le.1 hto
      rw [List.filter_cons, if_pos (by simpa using hto)] at hR
      replace hR : R0 = told (tell1 d e) ((L.l.drop (i + 1)).filter fun e => decide (e.index ≤ to)) := hR
      by_cases hkd : e.kind = 1
      · cases hM : ofM e.data with
        | some ms =>
          rw [hM] at c38
          replace c38 : ∀ h, ACalls Try.prog 38 [bys e.data] h (fun x h' => x = .tu [u64s ms, i64 0] ∧ h' = h) := c38
          have ht : tell1 d e = (ms, e.index) := by simp [tell1, tells, hkd, hM]
          rw [ht] at hR
          repeat' (first
            | refine S.nilK ?_
            | (refine S.op rfl ?_; first
              | refine R.indexAddr rfl rfl (by omega) h1 ?_
              | refine R.callQ (by decide) rfl (c38 _) ?_
              | refine R.mv rfl ?_
              | refine R.fieldAddr rfl ?_
              | refine R.fieldAddrR rfl ?_
              | refine R.nilCheck rfl ?_
              | refine R.nilCheckR rfl ?_
              | refine R.loadR rfl rfl ?_
              | refine R.load (by decide) rfl (by (repeat' (first | assumption | exact AHeap.set_same _ _ _ | refine AHeap.get_fresh (by assumption) ?_ | refine AHeap.so ?_ ?_ | exact AHeap.n1 (by assumption) | exact AHeap.n2 (by assumption) | exact AHeap.ne_of (by assumption) (by assumption) | exact AHeap.n4 (by assumption) (by assumption) | exact AHeap.n5 (by assumption) | exact AHeap.n6 (by assumption) | exact AHeap.n7 (by assumption) (by assumption) | exact AHeap.n8 (by assumption) (by assumption))); first | done | fail) rfl ?_
              | refine S.addI rfl rfl (by omega) ?_
              | refine S.subI rfl rfl (by omega) ?_
              | refine S.addU rfl rfl ?_
              | refine S.subU rfl rfl ?_
              | refine S.addUc rfl (by decide) ?_
              | refine S.subUc rfl (by decide) ?_
              | refine S.arith rfl rfl rfl ?_
              | refine R.pickT rfl rfl ?_
              | refine R.pickF rfl rfl ?_
              | refine R.len rfl ?_
              | refine R.lenA rfl ?_
              | refine R.lenStr rfl ?_
              | refine S.convIU rfl (by omega) ?_
              | refine S.convUI rfl (by omega) ?_
              | refine R.convInt rfl ?_
              | refine R.not rfl ?_
              | refine R.eqPtrNil rfl rfl ?_
              | refine R.extract rfl rfl ?_
              | refine R.field rfl rfl ?_
              | refine R.alloc rfl (fun b hb => ?_)
              | refine R.box rfl rfl rfl (fun b hb => ?_)
              | refine R.build rfl rfl ?_
              | refine R.buildSl rfl rfl rfl (by decide) ?_
              | refine R.toStr rfl ?_
              | refine R.convStr rfl ?_
              | refine R.minmax rfl ?_
              | refine R.makeFunc rfl rfl ?_
              | (first | refine S.lss rfl rfl (fun hlt => ?_) (fun hlt => by exfalso; omega) | refine S.lss rfl rfl (fun hlt => by exfalso; omega) (fun hlt => ?_) | refine S.lss rfl rfl (fun hlt => ?_) (fun hlt => ?_))
              | (first | refine S.gtr rfl rfl (fun hlt => ?_) (fun hlt => by exfalso; omega) | refine S.gtr rfl rfl (fun hlt => by exfalso; omega) (fun hlt => ?_) | refine S.gtr rfl rfl (fun hlt => ?_) (fun hlt => ?_))
              | (first | refine S.leq rfl rfl (fun hlt => ?_) (fun hlt => by exfalso; omega) | refine S.leq rfl rfl (fun hlt => by exfalso; omega) (fun hlt => ?_) | refine S.leq rfl rfl (fun hlt => ?_) (fun hlt => ?_))
              | (first | refine S.geq rfl rfl (fun hlt => ?_) (fun hlt => by exfalso; omega) | refine S.geq rfl rfl (fun hlt => by exfalso; omega) (fun hlt => ?_) | refine S.geq rfl rfl (fun hlt => ?_) (fun hlt => ?_))
              | (first | refine S.eqInt rfl rfl (fun hlt => ?_) (fun hlt => by exfalso; omega) | refine S.eqInt rfl rfl (fun hlt => by exfalso; omega) (fun hlt => ?_) | refine S.eqInt rfl rfl (fun hlt => ?_) (fun hlt => ?_)))
            | (refine S.op0 rfl ?_; first | refine S.storeS rfl rfl rfl (by rfl) rfl (by first | decide | exact Nat.le_refl _ | exact Nat.le_of_ble_eq_true rfl) ?_ | refine S.store rfl rfl (by (repeat' (first | assumption | exact AHeap.set_same _ _ _ | refine AHeap.get_fresh (by assumption) ?_ | refine AHeap.so ?_ ?_ | exact AHeap.n1 (by assumption) | exact AHeap.n2 (by assumption) | exact AHeap.ne_of (by assumption) (by assumption) | exact AHeap.n4 (by assumption) (by assumption) | exact AHeap.n5 (by assumption) | exact AHeap.n6 (by assumption) | exact AHeap.n7 (by assumption) (by assumption) | exact AHeap.n8 (by assumption) (by assumption))); first | done | fail) rfl rfl rfl (by rfl) rfl ?_)
            | refine S.skip rfl ?_
            | refine S.skip0 rfl ?_
            | refine S.seq ?_
            | refine S.region ?_
            | refine S.regionT ?_
            | refine S.tstep ?_
            | refine S.talt ?_ ?_
            | exact S.tstop
            | refine S.tdone ?_
            | refine S.condT rfl ?_
            | refine S.condF rfl ?_
            | refine RRun.skip ?_
            | refine RRun.block ?_
            | refine RRun.inBlock ?_
            | refine RRun.exit rfl ?_)
          rw [show ((i : Int) + 1) = ((i + 1 : Nat) : Int) by omega]
          exact S.keep [27, 26, 25, 6, 7, 1] rfl (ih' (ms, e.index) _ (hg.set _ (hg.none (by assumption))) hR)
        | none =>
          rw [hM] at c38
          replace c38 : ∀ h, ACalls Try.prog 38 [bys e.data] h (fun x h' => x = .tu [u64s [], i64 30] ∧ h' = h) := c38
          have ht : tell1 d e = d := by simp [tell1, tells, hkd, hM]
          rw [ht] at hR
          repeat' (first
            | refine S.nilK ?_
            | (refine S.op rfl ?_; first
              | refine R.indexAddr rfl rfl (by omega) h1 ?_
              | refine R.callQ (by decide) rfl (c38 _) ?_
              | refine R.mv rfl ?_
              | refine R.fieldAddr rfl ?_
              | refine R.fieldAddrR rfl ?_
              | refine R.nilCheck rfl ?_
              | refine R.nilCheckR rfl ?_
              | refine R.loadR rfl rfl ?_
              | refine R.load (by decide) rfl (by (repeat' (first | assumption | exact AHeap.set_same _ _ _ | refine AHeap.get_fresh (by assumption) ?_ | refine AHeap.so ?_ ?_ | exact AHeap.n1 (by assumption) | exact AHeap.n2 (by assumption) | exact AHeap.ne_of (by assumption) (by assumption) | exact AHeap.n4 (by assumption) (by assumption) | exact AHeap.n5 (by assumption) | exact AHeap.n6 (by assumption) | exact AHeap.n7 (by assumption) (by assumption) | exact AHeap.n8 (by assumption) (by assumption))); first | done | fail) rfl ?_
              | refine S.addI rfl rfl (by omega) ?_
              | refine S.subI rfl rfl (by omega) ?_
              | refine S.addU rfl rfl ?_
              | refine S.subU rfl rfl ?_
              | refine S.addUc rfl (by decide) ?_
              | refine S.subUc rfl (by decide) ?_
              | refine S.arith rfl rfl rfl ?_
              | refine R.pickT rfl rfl ?_
              | refine R.pickF rfl rfl ?_
              | refine R.len rfl ?_
              | refine R.lenA rfl ?_
              | refine R.lenStr rfl ?_
              | refine S.convIU rfl (by omega) ?_
              | refine S.convUI rfl (by omega) ?_
              | refine R.convInt rfl ?_
              | refine R.not rfl ?_
              | refine R.eqPtrNil rfl rfl ?_
              | refine R.extract rfl rfl ?_
              | refine R.field rfl rfl ?_
              | refine R.alloc rfl (fun b hb => ?_)
              | refine R.box rfl rfl rfl (fun b hb => ?_)
              | refine R.build rfl rfl ?_
              | refine R.buildSl rfl rfl rfl (by decide) ?_
              | refine R.toStr rfl ?_
              | refine R.convStr rfl ?_
              | refine R.minmax rfl ?_
              | refine R.makeFunc rfl rfl ?_
              | (first | refine S.lss rfl rfl (fun hlt => ?_) (fun hlt => by exfalso; omega) | refine S.lss rfl rfl (fun hlt => by exfalso; omega) (fun hlt => ?_) | refine S.lss rfl rfl (fun hlt => ?_) (fun hlt => ?_))
              | (first | refine S.gtr rfl rfl (fun hlt => ?_) (fun hlt => by exfalso; omega) | refine S.gtr rfl rfl (fun hlt => by exfalso; omega) (fun hlt => ?_) | refine S.gtr rfl rfl (fun hlt => ?_) (fun hlt => ?_))
              | (first | refine S.leq rfl rfl (fun hlt => ?_) (fun hlt => by exfalso; omega) | refine S.leq rfl rfl (fun hlt => by exfalso; omega) (fun hlt => ?_) | refine S.leq rfl rfl (fun hlt => ?_) (fun hlt => ?_))
              | (first | refine S.geq rfl rfl (fun hlt => ?_) (fun hlt => by exfalso; omega) | refine S.geq rfl rfl (fun hlt => by exfalso; omega) (fun hlt => ?_) | refine S.geq rfl rfl (fun hlt => ?_) (fun hlt => ?_))
              | (first | refine S.eqInt rfl rfl (fun hlt => ?_) (fun hlt => by exfalso; omega) | refine S.eqInt rfl rfl (fun hlt => by exfalso; omega) (fun hlt => ?_) | refine S.eqInt rfl rfl (fun hlt => ?_) (fun hlt => ?_)))
            | (refine S.op0 rfl ?_; first | refine S.storeS rfl rfl rfl (by rfl) rfl (by first | decide | exact Nat.le_refl _ | exact Nat.le_of_ble_eq_true rfl) ?_ | refine S.store rfl rfl (by (repeat' (first | assumption | exact AHeap.set_same _ _ _ | refine AHeap.get_fresh (by assumption) ?_ | refine AHeap.so ?_ ?_ | exact AHeap.n1 (by assumption) | exact AHeap.n2 (by assumption) | exact AHeap.ne_of (by assumption) (by assumption) | exact AHeap.n4 (by assumption) (by assumption) | exact AHeap.n5 (by assumption) | exact AHeap.n6 (by assumption) | exact AHeap.n7 (by assumption) (by assumption) | exact AHeap.n8 (by assumption) (by assumption))); first | done | fail) rfl rfl rfl (by rfl) rfl ?_)
            | refine S.skip rfl ?_
            | refine S.skip0 rfl ?_
            | refine S.seq ?_
            | refine S.region ?_
            | refine S.regionT ?_
            | refine S.tstep ?_
            | refine S.talt ?_ ?_
            | exact S.tstop
            | refine S.tdone ?_
            | refine S.condT rfl ?_
            | refine S.condF rfl ?_
            | refine RRun.skip ?_
            | refine RRun.block ?_
            | refine RRun.inBlock ?_
            | refine RRun.exit rfl ?_)
          rw [show ((i : Int) + 1) = ((i + 1 : Nat) : Int) by omega]
          exact S.keep [27, 26, 25, 6, 7, 1] rfl (ih' d _ (hg.set _ (hg.none (by assumption))) hR)
      · have ht : tell1 d e = d := by simp [tell1, tells, hkd]
        rw [ht] at hR
        repeat' (first
          | refine S.nilK ?_
          | (refine S.op rfl ?_; first
            | refine R.indexAddr rfl rfl (by omega) h1 ?_
            | refine R.mv rfl ?_
            | refine R.fieldAddr rfl ?_
            | refine R.fieldAddrR rfl ?_
            | refine R.nilCheck rfl ?_
            | refine R.nilCheckR rfl ?_
            | refine R.loadR rfl rfl ?_
            | refine R.load (by decide) rfl (by (repeat' (first | assumption | exact AHeap.set_same _ _ _ | refine AHeap.get_fresh (by assumption) ?_ | refine AHeap.so ?_ ?_ | exact AHeap.n1 (by assumption) | exact AHeap.n2 (by assumption) | exact AHeap.ne_of (by assumption) (by assumption) | exact AHeap.n4 (by assumption) (by assumption) | exact AHeap.n5 (by assumption) | exact AHeap.n6 (by assumption) | exact AHeap.n7 (by assumption) (by assumption) | exact AHeap.n8 (by assumption) (by assumption))); first | done | fail) rfl ?_
            | refine S.addI rfl rfl (by omega) ?_
            | refine S.subI rfl rfl (by omega) ?_
            | refine S.addU rfl rfl ?_
            | refine S.subU rfl rfl ?_
            | refine S.addUc rfl (by decide) ?_
            | refine S.subUc rfl (by decide) ?_
            | refine S.arith rfl rfl rfl ?_
            | refine R.pickT rfl rfl ?_
            | refine R.pickF rfl rfl ?_
            | refine R.len rfl ?_
            | refine R.lenA rfl ?_
            | refine R.lenStr rfl ?_
            | refine S.convIU rfl (by omega) ?_
            | refine S.convUI rfl (by omega) ?_
            | refine R.convInt rfl ?_
            | refine R.not rfl ?_
            | refine R.eqPtrNil rfl rfl ?_
            | refine R.extract rfl rfl ?_
            | refine R.field rfl rfl ?_
            | refine R.alloc rfl (fun b hb => ?_)
            | refine R.box rfl rfl rfl (fun b hb => ?_)
            | refine R.build rfl rfl ?_
            | refine R.buildSl rfl rfl rfl (by decide) ?_
            | refine R.toStr rfl ?_
            | refine R.convStr rfl ?_
            | refine R.minmax rfl ?_
            | refine R.makeFunc rfl rfl ?_
            | (first | refine S.lss rfl rfl (fun hlt => ?_) (fun hlt => by exfalso; omega) | refine S.lss rfl rfl (fun hlt => by exfalso; omega) (fun hlt => ?_) | refine S.lss rfl rfl (fun hlt => ?_) (fun hlt => ?_))
            | (first | refine S.gtr rfl rfl (fun hlt => ?_) (fun hlt => by exfalso; omega) | refine S.gtr rfl rfl (fun hlt => by exfalso; omega) (fun hlt => ?_) | refine S.gtr rfl rfl (fun hlt => ?_) (fun hlt => ?_))
            | (first | refine S.leq rfl rfl (fun hlt => ?_) (fun hlt => by exfalso; omega) | refine S.leq rfl rfl (fun hlt => by exfalso; omega) (fun hlt => ?_) | refine S.leq rfl rfl (fun hlt => ?_) (fun hlt => ?_))
            | (first | refine S.geq rfl rfl (fun hlt => ?_) (fun hlt => by exfalso; omega) | refine S.geq rfl rfl (fun hlt => by exfalso; omega) (fun hlt => ?_) | refine S.geq rfl rfl (fun hlt => ?_) (fun hlt => ?_))
            | (first | refine S.eqInt rfl rfl (fun hlt => ?_) (fun hlt => by exfalso; omega) | refine S.eqInt rfl rfl (fun hlt => by exfalso; omega) (fun hlt => ?_) | refine S.eqInt rfl rfl (fun hlt => ?_) (fun hlt => ?_)))
          | (refine S.op0 rfl ?_; first | refine S.storeS rfl rfl rfl (by rfl) rfl (by first | decide | exact Nat.le_refl _ | exact Nat.le_of_ble_eq_true rfl) ?_ | refine S.store rfl rfl (by (repeat' (first | assumption | exact AHeap.set_same _ _ _ | refine AHeap.get_fresh (by assumption) ?_ | refine AHeap.so ?_ ?_ | exact AHeap.n1 (by assumption) | exact AHeap.n2 (by assumption) | exact AHeap.ne_of (by assumption) (by assumption) | exact AHeap.n4 (by assumption) (by assumption) | exact AHeap.n5 (by assumption) | exact AHeap.n6 (by assumption) | exact AHeap.n7 (by assumption) (by assumption) | exact AHeap.n8 (by assumption) (by assumption))); first | done | fail) rfl rfl rfl (by rfl) rfl ?_)
          | refine S.skip rfl ?_
          | refine S.skip0 rfl ?_
          | refine S.seq ?_
          | refine S.region ?_
          | refine S.regionT ?_
          | refine S.tstep ?_
          | refine S.talt ?_ ?_
          | exact S.tstop
          | refine S.tdone ?_
          | refine S.condT rfl ?_
          | refine S.condF rfl ?_
          | refine RRun.skip ?_
          | refine RRun.block ?_
          | refine RRun.inBlock ?_
          | refine RRun.exit rfl ?_)
        rw [show ((i : Int) + 1) = ((i + 1 : Nat) : Int) by omega]
        exact S.keep [27, 26, 25, 6, 7, 1] rfl (ih' d _ (hg.set _ (hg.none (by assumption))) hR)
    · have hto2 : ¬ e.index.toNat ≤ to.toNat := fun g => hto (UInt64.le_iff_toNat_le.2 g)
      rw [List.filter_cons, if_neg (by simpa using hto)] at hR
      repeat' (first
        | refine S.nilK ?_
        | (refine S.op rfl ?_; first
          | refine R.indexAddr rfl rfl (by omega) h1 ?_
          | refine R.mv rfl ?_
          | refine R.fieldAddr rfl ?_
          | refine R.fieldAddrR rfl ?_
          | refine R.nilCheck rfl ?_
          | refine R.nilCheckR rfl ?_
          | refine R.loadR rfl rfl ?_
          | refine R.load (by decide) rfl (by (repeat' (first | assumption | exact AHeap.set_same _ _ _ | refine AHeap.get_fresh (by assumption) ?_ | refine AHeap.so ?_ ?_ | exact AHeap.n1 (by assumption) | exact AHeap.n2 (by assumption) | exact AHeap.ne_of (by assumption) (by assumption) | exact AHeap.n4 (by assumption) (by assumption) | exact AHeap.n5 (by assumption) | exact AHeap.n6 (by assumption) | exact AHeap.n7 (by assumption) (by assumption) | exact AHeap.n8 (by assumption) (by assumption))); first | done | fail) rfl ?_
          | refine S.addI rfl rfl (by omega) ?_
          | refine S.subI rfl rfl (by omega) ?_
          | refine S.addU rfl rfl ?_
          | refine S.subU rfl rfl ?_
          | refine S.addUc rfl (by decide) ?_
          | refine S.subUc rfl (by decide) ?_
          | refine S.arith rfl rfl rfl ?_
          | refine R.pickT rfl rfl ?_
          | refine R.pickF rfl rfl ?_
          | refine R.len rfl ?_
          | refine R.lenA rfl ?_
          | refine R.lenStr rfl ?_
          | refine S.convIU rfl (by omega) ?_
          | refine S.convUI rfl (by omega) ?_
          | refine R.convInt rfl ?_
          | refine R.not rfl ?_
          | refine R.eqPtrNil rfl rfl ?_
          | refine R.extract rfl rfl ?_
          | refine R.field rfl rfl ?_
          | refine R.alloc rfl (fun b hb => ?_)
          | refine R.box rfl rfl rfl (fun b hb => ?_)
          | refine R.build rfl rfl ?_
          | refine R.buildSl rfl rfl rfl (by decide) ?_
          | refine R.toStr rfl ?_
          | refine R.convStr rfl ?_
          | refine R.minmax rfl ?_
          | refine R.makeFunc rfl rfl ?_
          | (first | refine S.lss rfl rfl (fun hlt => ?_) (fun hlt => by exfalso; omega) | refine S.lss rfl rfl (fun hlt => by exfalso; omega) (fun hlt => ?_) | refine S.lss rfl rfl (fun hlt => ?_) (fun hlt => ?_))
          | (first | refine S.gtr rfl rfl (fun hlt => ?_) (fun hlt => by exfalso; omega) | refine S.gtr rfl rfl (fun hlt => by exfalso; omega) (fun hlt => ?_) | refine S.gtr rfl rfl (fun hlt => ?_) (fun hlt => ?_))
          | (first | refine S.leq rfl rfl (fun hlt => ?_) (fun hlt => by exfalso; omega) | refine S.leq rfl rfl (fun hlt => by exfalso; omega) (fun hlt => ?_) | refine S.leq rfl rfl (fun hlt => ?_) (fun hlt => ?_))
          | (first | refine S.geq rfl rfl (fun hlt => ?_) (fun hlt => by exfalso; omega) | refine S.geq rfl rfl (fun hlt => by exfalso; omega) (fun hlt => ?_) | refine S.geq rfl rfl (fun hlt => ?_) (fun hlt => ?_))
          | (first | refine S.eqInt rfl rfl (fun hlt => ?_) (fun hlt => by exfalso; omega) | refine S.eqInt rfl rfl (fun hlt => by exfalso; omega) (fun hlt => ?_) | refine S.eqInt rfl rfl (fun hlt => ?_) (fun hlt => ?_)))
        | (refine S.op0 rfl ?_; first | refine S.storeS rfl rfl rfl (by rfl) rfl (by first | decide | exact Nat.le_refl _ | exact Nat.le_of_ble_eq_true rfl) ?_ | refine S.store rfl rfl (by (repeat' (first | assumption | exact AHeap.set_same _ _ _ | refine AHeap.get_fresh (by assumption) ?_ | refine AHeap.so ?_ ?_ | exact AHeap.n1 (by assumption) | exact AHeap.n2 (by assumption) | exact AHeap.ne_of (by assumption) (by assumption) | exact AHeap.n4 (by assumption) (by assumption) | exact AHeap.n5 (by assumption) | exact AHeap.n6 (by assumption) | exact AHeap.n7 (by assumption) (by assumption) | exact AHeap.n8 (by assumption) (by assumption))); first | done | fail) rfl rfl rfl (by rfl) rfl ?_)
        | refine S.skip rfl ?_
        | refine S.skip0 rfl ?_
        | refine S.seq ?_
        | refine S.region ?_
        | refine S.regionT ?_
        | refine S.tstep ?_
        | refine S.talt ?_ ?_
        | exact S.tstop
        | refine S.tdone ?_
        | refine S.condT rfl ?_
        | refine S.condF rfl ?_
        | refine RRun.skip ?_
        | refine RRun.block ?_
        | refine RRun.inBlock ?_
        | refine RRun.exit rfl ?_)
      all_goals
        rw [show ((i : Int) + 1) = ((i + 1 : Nat) : Int) by omega]
        exact S.keep [27, 26, 25, 6, 7, 1] rfl (ih' d _ (hg.set _ (hg.none (by assumption))) hR)

theorem told_spec (L : Log) (he : ∀ x ∈ L.l, x.data.length ≤ 140737488355328) (hl : L.l.length ≤ 549755813888) (to : UInt64) (p : Nat) (h : AHeap) (hp : h p = some (.box L.cells)) :
    ACalls Try.prog 68 [ptr p, u64 to] h (fun x h' => x = toldAns (told L.zero' (L.l.filter fun e => decide (e.index ≤ to))) ∧ h' = h) := by
  have hlen0 : (L.l.map Entry.cells).length = L.l.length := by simp
  obtain ⟨c, hc1, hc2⟩ := res68
  refine ACalls.weak (ACalls.enter Try.func68 hc1 Try.ntmps68 hc2 (Nat.le_of_ble_eq_true rfl) rfl ?_)
  repeat' (first
    | refine S.nilK ?_
    | (refine S.op rfl ?_; first
      | refine R.mv rfl ?_
      | refine R.fieldAddr rfl ?_
      | refine R.fieldAddrR rfl ?_
      | refine R.nilCheck rfl ?_
      | refine R.nilCheckR rfl ?_
      | refine R.loadR rfl rfl ?_
      | refine R.load (by decide) rfl (by (repeat' (first | assumption | exact AHeap.set_same _ _ _ | refine AHeap.get_fresh (by assumption) ?_ | refine AHeap.so ?_ ?_ | exact AHeap.n1 (by assumption) | exact AHeap.n2 (by assumption) | exact AHeap.ne_of (by assumption) (by assumption) | exact AHeap.n4 (by assumption) (by assumption) | exact AHeap.n5 (by assumption) | exact AHeap.n6 (by assumption) | exact AHeap.n7 (by assumption) (by assumption) | exact AHeap.n8 (by assumption) (by assumption))); first | done | fail) rfl ?_
      | refine S.addI rfl rfl (by omega) ?_
      | refine S.subI rfl rfl (by omega) ?_
      | refine S.addU rfl rfl ?_
      | refine S.subU rfl rfl ?_
      | refine S.addUc rfl (by decide) ?_
      | refine S.subUc rfl (by decide) ?_
      | refine S.arith rfl rfl rfl ?_
      | refine R.pickT rfl rfl ?_
      | refine R.pickF rfl rfl ?_
      | refine R.len rfl ?_
      | refine R.lenA rfl ?_
      | refine R.lenStr rfl ?_
      | refine S.convIU rfl (by omega) ?_
      | refine S.convUI rfl (by omega) ?_
      | refine R.convInt rfl ?_
      | refine R.not rfl ?_
      | refine R.eqPtrNil rfl rfl ?_
      | refine R.extract rfl rfl ?_
      | refine R.field rfl rfl ?_
      | refine R.alloc rfl (fun b hb => ?_)
      | refine R.box rfl rfl rfl (fun b hb => ?_)
      | refine R.build rfl rfl ?_
      | refine R.buildSl rfl rfl rfl (by decide) ?_
      | refine R.toStr rfl ?_
      | refine R.convStr rfl ?_
      | refine R.minmax rfl ?_
      | refine R.makeFunc rfl rfl ?_
      | (first | refine S.lss rfl rfl (fun hlt => ?_) (fun hlt => by exfalso; omega) | refine S.lss rfl rfl (fun hlt => by exfalso; omega) (fun hlt => ?_) | refine S.lss rfl rfl (fun hlt => ?_) (fun hlt => ?_))
      | (first | refine S.gtr rfl rfl (fun hlt => ?_) (fun hlt => by exfalso; omega) | refine S.gtr rfl rfl (fun hlt => by exfalso; omega) (fun hlt => ?_) | refine S.gtr rfl rfl (fun hlt => ?_) (fun hlt => ?_))
      | (first | refine S.leq rfl rfl (fun hlt => ?_) (fun hlt => by exfalso; omega) | refine S.leq rfl rfl (fun hlt => by exfalso; omega) (fun hlt => ?_) | refine S.leq rfl rfl (fun hlt => ?_) (fun hlt => ?_))
      | (first | refine S.geq rfl rfl (fun hlt => ?_) (fun hlt => by exfalso; omega) | refine S.geq rfl rfl (fun hlt => by exfalso; omega) (fun hlt => ?_) | refine S.geq rfl rfl (fun hlt => ?_) (fun hlt => ?_))
      | (first | refine S.eqInt rfl rfl (fun hlt => ?_) (fun hlt => by exfalso; omega) | refine S.eqInt rfl rfl (fun hlt => by exfalso; omega) (fun hlt => ?_) | refine S.eqInt rfl rfl (fun hlt => ?_) (fun hlt => ?_)))
    | (refine S.op0 rfl ?_; first | refine S.storeS rfl rfl rfl (by rfl) rfl (by first | decide | exact Nat.le_refl _ | exact Nat.le_of_ble_eq_true rfl) ?_ | refine S.store rfl rfl (by (repeat' (first | assumption | exact AHeap.set_same _ _ _ | refine AHeap.get_fresh (by assumption) ?_ | refine AHeap.so ?_ ?_ | exact AHeap.n1 (by assumption) | exact AHeap.n2 (by assumption) | exact AHeap.ne_of (by assumption) (by assumption) | exact AHeap.n4 (by assumption) (by assumption) | exact AHeap.n5 (by assumption) | exact AHeap.n6 (by assumption) | exact AHeap.n7 (by assumption) (by assumption) | exact AHeap.n8 (by assumption) (by assumption))); first | done | fail) rfl rfl rfl (by rfl) rfl ?_)
    | refine S.skip rfl ?_
    | refine S.skip0 rfl ?_
    | refine S.seq ?_
    | refine S.region ?_
    | refine S.regionT ?_
    | refine S.tstep ?_
    | refine S.talt ?_ ?_
    | exact S.tstop
    | refine S.tdone ?_
    | refine S.condT rfl ?_
    | refine S.condF rfl ?_
    | refine RRun.skip ?_
    | refine RRun.block ?_
    | refine RRun.inBlock ?_
    | refine RRun.exit rfl ?_)
  rw [hlen0]
  refine RRun.loopIn (S.keep [27, 26, 25, 6, 7, 1] rfl (told_loop L he hl to h _ _ _ ?_ L.l.length 0 L.zero' h (by omega) (.refl _) rfl))
  intro h' hg
  repeat' (first
    | refine S.nilK ?_
    | (refine S.op rfl ?_; first
      | refine R.mv rfl ?_
      | refine R.fieldAddr rfl ?_
      | refine R.fieldAddrR rfl ?_
      | refine R.nilCheck rfl ?_
      | refine R.nilCheckR rfl ?_
      | refine R.loadR rfl rfl ?_
      | refine R.load (by decide) rfl (by (repeat' (first | assumption | exact AHeap.set_same _ _ _ | refine AHeap.get_fresh (by assumption) ?_ | refine AHeap.so ?_ ?_ | exact AHeap.n1 (by assumption) | exact AHeap.n2 (by assumption) | exact AHeap.ne_of (by assumption) (by assumption) | exact AHeap.n4 (by assumption) (by assumption) | exact AHeap.n5 (by assumption) | exact AHeap.n6 (by assumption) | exact AHeap.n7 (by assumption) (by assumption) | exact AHeap.n8 (by assumption) (by assumption))); first | done | fail) rfl ?_
      | refine S.addI rfl rfl (by omega) ?_
      | refine S.subI rfl rfl (by omega) ?_
      | refine S.addU rfl rfl ?_
      | refine S.subU rfl rfl ?_
      | refine S.addUc rfl (by decide) ?_
      | refine S.subUc rfl (by decide) ?_
      | refine S.arith rfl rfl rfl ?_
      | refine R.pickT rfl rfl ?_
      | refine R.pickF rfl rfl ?_
      | refine R.len rfl ?_
      | refine R.lenA rfl ?_
      | refine R.lenStr rfl ?_
      | refine S.convIU rfl (by omega) ?_
      | refine S.convUI rfl (by omega) ?_
      | refine R.convInt rfl ?_
      | refine R.not rfl ?_
      | refine R.eqPtrNil rfl rfl ?_
      | refine R.extract rfl rfl ?_
      | refine R.field rfl rfl ?_
      | refine R.alloc rfl (fun b hb => ?_)
      | refine R.box rfl rfl rfl (fun b hb => ?_)
      | refine R.build rfl rfl ?_
      | refine R.buildSl rfl rfl rfl (by decide) ?_
      | refine R.toStr rfl ?_
      | refine R.convStr rfl ?_
      | refine R.minmax rfl ?_
      | refine R.makeFunc rfl rfl ?_
      | (first | refine S.lss rfl rfl (fun hlt => ?_) (fun hlt => by exfalso; omega) | refine S.lss rfl rfl (fun hlt => by exfalso; omega) (fun hlt => ?_) | refine S.lss rfl rfl (fun hlt => ?_) (fun hlt => ?_))
      | (first | refine S.gtr rfl rfl (fun hlt => ?_) (fun hlt => by exfalso; omega) | refine S.gtr rfl rfl (fun hlt => by exfalso; omega) (fun hlt => ?_) | refine S.gtr rfl rfl (fun hlt => ?_) (fun hlt => ?_))
      | (first | refine S.leq rfl rfl (fun hlt => ?_) (fun hlt => by exfalso; omega) | refine S.leq rfl rfl (fun hlt => by exfalso; omega) (fun hlt => ?_) | refine S.leq rfl rfl (fun hlt => ?_) (fun hlt => ?_))
      | (first | refine S.geq rfl rfl (fun hlt => ?_) (fun hlt => by exfalso; omega) | refine S.geq rfl rfl (fun hlt => by exfalso; omega) (fun hlt => ?_) | refine S.geq rfl rfl (fun hlt => ?_) (fun hlt => ?_))
      | (first | refine S.eqInt rfl rfl (fun hlt => ?_) (fun hlt => by exfalso; omega) | refine S.eqInt rfl rfl (fun hlt => by exfalso; omega) (fun hlt => ?_) | refine S.eqInt rfl rfl (fun hlt => ?_) (fun hlt => ?_)))
    | (refine S.op0 rfl ?_; first | refine S.storeS rfl rfl rfl (by rfl) rfl (by first | decide | exact Nat.le_refl _ | exact Nat.le_of_ble_eq_true rfl) ?_ | refine S.store rfl rfl (by (repeat' (first | assumption | exact AHeap.set_same _ _ _ | refine AHeap.get_fresh (by assumption) ?_ | refine AHeap.so ?_ ?_ | exact AHeap.n1 (by assumption) | exact AHeap.n2 (by assumption) | exact AHeap.ne_of (by assumption) (by assumption) | exact AHeap.n4 (by assumption) (by assumption) | exact AHeap.n5 (by assumption) | exact AHeap.n6 (by assumption) | exact AHeap.n7 (by assumption) (by assumption) | exact AHeap.n8 (by assumption) (by assumption))); first | done | fail) rfl rfl rfl (by rfl) rfl ?_)
    | refine S.skip rfl ?_
    | refine S.skip0 rfl ?_
    | refine S.seq ?_
    | refine S.region ?_
    | refine S.regionT ?_
    | refine S.tstep ?_
    | refine S.talt ?_ ?_
    | exact S.tstop
    | refine S.tdone ?_
    | refine S.condT rfl ?_
    | refine S.condF rfl ?_
    | refine RRun.skip ?_
    | refine RRun.block ?_
    | refine RRun.inBlock ?_
    | refine RRun.exit rfl ?_)
  apply S.ret rr68
  case hx => repeat (first | exact ResAt.nil | apply ResAt.tmp rfl | apply ResAt.cellA rfl (by (repeat' (first | assumption | exact AHeap.set_same _ _ _ | refine AHeap.get_fresh (by assumption) ?_ | refine AHeap.so ?_ ?_ | exact AHeap.n1 (by assumption) | exact AHeap.n2 (by assumption) | exact AHeap.ne_of (by assumption) (by assumption) | exact AHeap.n4 (by assumption) (by assumption) | exact AHeap.n5 (by assumption) | exact AHeap.n6 (by assumption) | exact AHeap.n7 (by assumption) (by assumption) | exact AHeap.n8 (by assumption) (by assumption))); first | done | fail) (by rfl) | apply ResAt.cell1 rfl (by (repeat' (first | assumption | exact AHeap.set_same _ _ _ | refine AHeap.get_fresh (by assumption) ?_ | refine AHeap.so ?_ ?_ | exact AHeap.n1 (by assumption) | exact AHeap.n2 (by assumption) | exact AHeap.ne_of (by assumption) (by assumption) | exact AHeap.n4 (by assumption) (by assumption) | exact AHeap.n5 (by assumption) | exact AHeap.n6 (by assumption) | exact AHeap.n7 (by assumption) (by assumption) | exact AHeap.n8 (by assumption) (by assumption))); first | done | fail) (by rfl))
  exact ⟨_, _, .refl _, hg, rfl, rfl⟩

/-- (*plenum/plenumref06.Log).Members -/
def r72 : RCode :=
  (.seq (.region [
    ⟨(some 2), none, .act, .mv (.const (.slice none 0 0))⟩,
    ⟨(some 3), none, .act, .mv (.const (.int .u64 0))⟩])
  (.seq (.region [
    ⟨(some 4), none, .act, .mv (.tmp 0)⟩,
    ⟨(some 5), none, .act, .call 68 [(.tmp 4), (.const (.int .u64 18446744073709551615))]⟩,
    ⟨(some 6), none, .act, .extract (.tmp 5) 0⟩,
    ⟨(some 7), none, .act, .extract (.tmp 5) 1⟩,
    ⟨(some 2), none, .act, .mv (.tmp 6)⟩,
    ⟨(some 3), none, .act, .mv (.tmp 7)⟩])
  .ret))
theorem res72 : ∃ c, Try.f72.body = some c ∧ resCode Try.prog 8 c = some r72 := ⟨_, rfl, by kernel_rfl⟩
theorem rr72 : resRes Try.prog Try.f72.results.toList = some [.tmp 2, .tmp 3] := by kernel_rfl
theorem rmembers_spec (L : Log) (he : ∀ x ∈ L.l, x.data.length ≤ 140737488355328) (hl : L.l.length ≤ 549755813888) (p : Nat) (h : AHeap) (hp : h p = some (.box L.cells)) :
    ACalls Try.prog 72 [ptr p] h (fun x h' => x = toldAns (told L.zero' L.l) ∧ h' = h) := by
  have c68 := told_spec L he hl full64 p h hp
  have hf : (L.l.filter fun e => decide (e.index ≤ full64)) = L.l := by
    rw [List.filter_eq_self]
    intro x _
    have : x.index.toNat ≤ full64.toNat := by
      have := x.index.toNat_lt
      show x.index.toNat ≤ 18446744073709551615
      omega
    exact decide_eq_true (UInt64.le_iff_toNat_le.2 this)
  rw [hf] at c68
  obtain ⟨c, hc1, hc2⟩ := res72
  refine ACalls.enter Try.func72 hc1 Try.ntmps72 hc2 (Nat.le_of_ble_eq_true rfl) rfl ?_
  repeat' (first
    | refine S.nilK ?_
    | (refine S.op rfl ?_; first
      | refine R.callQ (by decide) rfl c68 ?_
      | refine R.mv rfl ?_
      | refine R.fieldAddr rfl ?_
      | refine R.fieldAddrR rfl ?_
      | refine R.nilCheck rfl ?_
      | refine R.nilCheckR rfl ?_
      | refine R.loadR rfl rfl ?_
      | refine R.load (by decide) rfl (by (repeat' (first | assumption | exact AHeap.set_same _ _ _ | refine AHeap.get_fresh (by assumption) ?_ | refine AHeap.so ?_ ?_ | exact AHeap.n1 (by assumption) | exact AHeap.n2 (by assumption) | exact AHeap.ne_of (by assumption) (by assumption) | exact AHeap.n4 (by assumption) (by assumption) | exact AHeap.n5 (by assumption) | exact AHeap.n6 (by assumption) | exact AHeap.n7 (by assumption) (by assumption) | exact AHeap.n8 (by assumption) (by assumption))); first | done | fail) rfl ?_
      | refine S.addI rfl rfl (by omega) ?_
      | refine S.subI rfl rfl (by omega) ?_
      | refine S.addU rfl rfl ?_
      | refine S.subU rfl rfl ?_
      | refine S.addUc rfl (by decide) ?_
      | refine S.subUc rfl (by decide) ?_
      | refine S.arith rfl rfl rfl ?_
      | refine R.pickT rfl rfl ?_
      | refine R.pickF rfl rfl ?_
      | refine R.len rfl ?_
      | refine R.lenA rfl ?_
      | refine R.lenStr rfl ?_
      | refine S.convIU rfl (by omega) ?_
      | refine S.convUI rfl (by omega) ?_
      | refine R.convInt rfl ?_
      | refine R.not rfl ?_
      | refine R.eqPtrNil rfl rfl ?_
      | refine R.extract rfl rfl ?_
      | refine R.field rfl rfl ?_
      | refine R.alloc rfl (fun b hb => ?_)
      | refine R.box rfl rfl rfl (fun b hb => ?_)
      | refine R.build rfl rfl ?_
      | refine R.buildSl rfl rfl rfl (by decide) ?_
      | refine R.toStr rfl ?_
      | refine R.convStr rfl ?_
      | refine R.minmax rfl ?_
      | refine R.makeFunc rfl rfl ?_
      | (first | refine S.lss rfl rfl (fun hlt => ?_) (fun hlt => by exfalso; omega) | refine S.lss rfl rfl (fun hlt => by exfalso; omega) (fun hlt => ?_) | refine S.lss rfl rfl (fun hlt => ?_) (fun hlt => ?_))
      | (first | refine S.gtr rfl rfl (fun hlt => ?_) (fun hlt => by exfalso; omega) | refine S.gtr rfl rfl (fun hlt => by exfalso; omega) (fun hlt => ?_) | refine S.gtr rfl rfl (fun hlt => ?_) (fun hlt => ?_))
      | (first | refine S.leq rfl rfl (fun hlt => ?_) (fun hlt => by exfalso; omega) | refine S.leq rfl rfl (fun hlt => by exfalso; omega) (fun hlt => ?_) | refine S.leq rfl rfl (fun hlt => ?_) (fun hlt => ?_))
      | (first | refine S.geq rfl rfl (fun hlt => ?_) (fun hlt => by exfalso; omega) | refine S.geq rfl rfl (fun hlt => by exfalso; omega) (fun hlt => ?_) | refine S.geq rfl rfl (fun hlt => ?_) (fun hlt => ?_))
      | (first | refine S.eqInt rfl rfl (fun hlt => ?_) (fun hlt => by exfalso; omega) | refine S.eqInt rfl rfl (fun hlt => by exfalso; omega) (fun hlt => ?_) | refine S.eqInt rfl rfl (fun hlt => ?_) (fun hlt => ?_)))
    | (refine S.op0 rfl ?_; first | refine S.storeS rfl rfl rfl (by rfl) rfl (by first | decide | exact Nat.le_refl _ | exact Nat.le_of_ble_eq_true rfl) ?_ | refine S.store rfl rfl (by (repeat' (first | assumption | exact AHeap.set_same _ _ _ | refine AHeap.get_fresh (by assumption) ?_ | refine AHeap.so ?_ ?_ | exact AHeap.n1 (by assumption) | exact AHeap.n2 (by assumption) | exact AHeap.ne_of (by assumption) (by assumption) | exact AHeap.n4 (by assumption) (by assumption) | exact AHeap.n5 (by assumption) | exact AHeap.n6 (by assumption) | exact AHeap.n7 (by assumption) (by assumption) | exact AHeap.n8 (by assumption) (by assumption))); first | done | fail) rfl rfl rfl (by rfl) rfl ?_)
    | refine S.skip rfl ?_
    | refine S.skip0 rfl ?_
    | refine S.seq ?_
    | refine S.region ?_
    | refine S.regionT ?_
    | refine S.tstep ?_
    | refine S.talt ?_ ?_
    | exact S.tstop
    | refine S.tdone ?_
    | refine S.condT rfl ?_
    | refine S.condF rfl ?_
    | refine RRun.skip ?_
    | refine RRun.block ?_
    | refine RRun.inBlock ?_
    | refine RRun.exit rfl ?_)
  apply S.ret rr72
  case hx => repeat (first | exact ResAt.nil | apply ResAt.tmp rfl | apply ResAt.cellA rfl (by (repeat' (first | assumption | exact AHeap.set_same _ _ _ | refine AHeap.get_fresh (by assumption) ?_ | refine AHeap.so ?_ ?_ | exact AHeap.n1 (by assumption) | exact AHeap.n2 (by assumption) | exact AHeap.ne_of (by assumption) (by assumption) | exact AHeap.n4 (by assumption) (by assumption) | exact AHeap.n5 (by assumption) | exact AHeap.n6 (by assumption) | exact AHeap.n7 (by assumption) (by assumption) | exact AHeap.n8 (by assumption) (by assumption))); first | done | fail) (by rfl) | apply ResAt.cell1 rfl (by (repeat' (first | assumption | exact AHeap.set_same _ _ _ | refine AHeap.get_fresh (by assumption) ?_ | refine AHeap.so ?_ ?_ | exact AHeap.n1 (by assumption) | exact AHeap.n2 (by assumption) | exact AHeap.ne_of (by assumption) (by assumption) | exact AHeap.n4 (by assumption) (by assumption) | exact AHeap.n5 (by assumption) | exact AHeap.n6 (by assumption) | exact AHeap.n7 (by assumption) (by assumption) | exact AHeap.n8 (by assumption) (by assumption))); first | done | fail) (by rfl))
  exact ⟨rfl, rfl⟩

end Go.Proofs.Ytnmgamcmjjngcaa
