import Derived.Test.YtcjcmegkfplnkaaL2
set_option linter.unusedVariables false
set_option linter.unusedSimpArgs false
namespace Go.Proofs.Ytcjcmegkfplnkaa
open Go.Av

structure Tok where
  kind : Int
  s : List UInt8
  n : Int
  pos : Int

def Tok.cells (t : Tok) : List AV := [i64 t.kind, str t.s, i64 t.n, i64 t.pos]

theorem tells_digit : Tells 24 isDigit := ⟨rfl, digit_spec⟩
theorem tells_word : Tells 30 isWord := ⟨rfl, word1_spec⟩
theorem tells_blank : Tells 16 isBlank := ⟨rfl, blank_spec⟩

/-! ### A number -/

def numStep (o : Option Int) (c : UInt8) : Option Int :=
  match o with
  | none => none
  | some n => if Fits (n * 10) then (if Fits (n * 10 + ((c.toNat : Int) - 48)) then some (n * 10 + ((c.toNat : Int) - 48)) else none) else none

theorem isDigit_spec {c : UInt8} (h : isDigit c = true) : 48 ≤ c.toNat ∧ c.toNat ≤ 57 := of_decide_eq_true h

def r25l0 : RCode :=
  (.seq (.region [
    ⟨(some 13), none, .act, .bin .lss (.tmp 12) (.tmp 11)⟩])
  (.seq (.cond (.tmp 13)
   .skip
   (.exit 0))
  (.seq (.block 1
   (.seq (.region [
     ⟨(some 14), none, .act, .indexAddr 1 (.tmp 10) (.tmp 12)⟩,
     ⟨(some 15), none, .act, .load false 1 (.tmp 14)⟩,
     ⟨(some 7), none, .act, .mv (.tmp 15)⟩])
   (.seq (.seq (.region [
     ⟨(some 16), none, .act, .mv (.tmp 5)⟩])
   (.cond (.tmp 16)
    (.region [
      ⟨(some 18), none, .act, .mv (.tmp 4)⟩,
      ⟨(some 19), none, .act, .call 32 [(.tmp 18), (.const (.int .i64 10))]⟩,
      ⟨(some 17), none, .act, .mv (.tmp 19)⟩,
      ⟨(some 20), none, .act, .extract (.tmp 17) 0⟩,
      ⟨(some 21), none, .act, .extract (.tmp 17) 1⟩,
      ⟨(some 4), none, .act, .mv (.tmp 20)⟩,
      ⟨(some 5), none, .act, .mv (.tmp 21)⟩])
    .skip))
   (.seq (.region [
     ⟨(some 22), none, .act, .mv (.tmp 5)⟩])
   (.cond (.tmp 22)
    (.region [
      ⟨(some 24), none, .act, .mv (.tmp 4)⟩,
      ⟨(some 25), none, .act, .mv (.tmp 7)⟩,
      ⟨(some 26), none, .act, .bin .sub (.tmp 25) (.const (.int .u8 48))⟩,
      ⟨(some 27), none, .act, .convInt .i64 (.tmp 26)⟩,
      ⟨(some 28), none, .act, .call 33 [(.tmp 24), (.tmp 27)]⟩,
      ⟨(some 23), none, .act, .mv (.tmp 28)⟩,
      ⟨(some 29), none, .act, .extract (.tmp 23) 0⟩,
      ⟨(some 30), none, .act, .extract (.tmp 23) 1⟩,
      ⟨(some 4), none, .act, .mv (.tmp 29)⟩,
      ⟨(some 5), none, .act, .mv (.tmp 30)⟩])
    .skip)))))
  (.region [
    ⟨(some 31), none, .act, .bin .add (.tmp 12) (.const (.int .i64 1))⟩,
    ⟨(some 12), none, .act, .mv (.tmp 31)⟩]))))
/-- (*plenum/lex.cutter).number -/
def r25 : RCode :=
  (.seq (.region [
    ⟨(some 2), none, .act, .alloc [(.int .i64 0), (.string ⟨#[]⟩), (.int .i64 0), (.int .i64 0)]⟩,
    ⟨(some 3), none, .act, .mv (.const (.bool false))⟩])
  (.seq (.region [
    ⟨(some 4), none, .act, .mv (.const (.int .i64 0))⟩,
    ⟨(some 5), none, .act, .mv (.const (.bool true))⟩])
  (.seq (.seq (.region [
    ⟨(some 8), none, .act, .mv (.tmp 0)⟩,
    ⟨(some 9), none, .act, .call 15 [(.tmp 8), (.func 24)]⟩,
    ⟨(some 10), none, .act, .toBytes (.tmp 9)⟩,
    ⟨(some 11), none, .act, .len (.tmp 10)⟩,
    ⟨(some 12), none, .act, .mv (.const (.int .i64 0))⟩])
  (.block 0
   (.loop r25l0)))
  (.seq (.region [
    ⟨(some 32), none, .act, .mv (.tmp 4)⟩,
    ⟨(some 33), none, .act, .build [(.int .i64 0), (.string ⟨#[]⟩), (.int .i64 0), (.int .i64 0)] [(0, 1, (.const (.int .i64 2))), (2, 1, (.tmp 32))]⟩,
    ⟨(some 34), none, .act, .mv (.tmp 5)⟩,
    ⟨none, none, .act, .store 4 (.tmp 2) (.tmp 33)⟩,
    ⟨(some 3), none, .act, .mv (.tmp 34)⟩])
  .ret))))
theorem res25 : ∃ c, Try.f25.body = some c ∧ resCode Try.prog 35 c = some r25 := ⟨_, rfl, by kernel_rfl⟩
theorem rr25 : resRes Try.prog Try.f25.results.toList = some [.cell 2 true 4, .tmp 3] := by kernel_rfl
theorem number_loop (w : List UInt8) (hw : ∀ c ∈ w, isDigit c = true) (hl : w.length ≤ 4611686018427387904) (b b2 : Nat) (h : AHeap) (k : List RT) (Q : AV → AHeap → Prop) : ∀ (m j : Nat) (o : Option Int), j + m = w.length → (∀ n, o = some n → Fits n) →
    RRun Try.prog Try.f25 35 k (Env.get [(2, ptr b2), (4, i64 (((w.drop j).foldl numStep o).getD 0)), (5, bl ((w.drop j).foldl numStep o).isSome)]) h Q →
    RRun Try.prog Try.f25 35 (.inLoop r25l0 :: .inBlock 0 :: k) (Env.get [(12, i64 j), (11, i64 w.length), (10, .sl 1 (Go.Av.byteCells w) .ro), (2, ptr b2), (4, i64 (o.getD 0)), (5, bl o.isSome)]) h Q := by
  intro m
  induction m with
  | zero =>
    intro j o hj hf hk
    have hd : w.drop j = [] := by simp; omega
    rw [hd] at hk
    refine RRun.inLoop ?_
    repeat' (first
      | refine S.nilK ?_
      | (refine S.op rfl ?_; first
        | refine R.mv rfl ?_
        | refine R.fieldAddr rfl ?_
        | refine R.fieldAddrR rfl ?_
        | refine R.nilCheck rfl ?_
        | refine R.nilCheckR rfl ?_
        | refine R.loadR rfl rfl ?_
        | refine R.load (by decide) rfl (by (repeat' (first | assumption | exact AHeap.set_same _ _ _ | refine AHeap.get_fresh (by assumption) ?_ | refine AHeap.so ?_ ?_ | exact AHeap.n1 (by assumption) | exact AHeap.n2 (by assumption) | exact AHeap.ne_of (by assumption) (by assumption) | exact AHeap.n4 (by assumption) (by assumption) | exact AHeap.n5 (by assumption) | exact AHeap.n6 (by assumption) | exact AHeap.n7 (by assumption) (by assumption) | exact AHeap.n8 (by assumption) (by assumption))); first | done | fail) rfl ?_
        | refine S.addI rfl rfl (by omega) ?_
        | refine S.subI rfl rfl (by omega) ?_
        | refine S.addU rfl rfl ?_
        | refine S.subU rfl rfl ?_
        | refine S.addUc rfl (by decide) ?_
        | refine S.subUc rfl (by decide) ?_
        | refine S.arith rfl rfl rfl ?_
        | refine R.pickT rfl rfl ?_
        | refine R.pickF rfl rfl ?_
        | refine R.len rfl ?_
        | refine R.lenA rfl ?_
        | refine R.lenStr rfl ?_
        | refine S.convIU rfl (by omega) ?_
        | refine S.convUI rfl (by omega) ?_
        | refine R.convInt rfl ?_
        | refine R.not rfl ?_
        | refine R.eqPtrNil rfl rfl ?_
        | refine R.extract rfl rfl ?_
        | refine R.field rfl rfl ?_
        | refine R.alloc rfl (fun b hb => ?_)
        | refine R.box rfl rfl rfl (fun b hb => ?_)
        | refine R.build rfl rfl ?_
        | refine R.buildSl rfl rfl rfl (by decide) ?_
        | refine R.toStr rfl ?_
        | refine R.convStr rfl ?_
        | refine R.minmax rfl ?_
        | refine R.makeFunc rfl rfl ?_
        | (first | refine S.lss rfl rfl (fun hlt => ?_) (fun hlt => by exfalso; omega) | refine S.lss rfl rfl (fun hlt => by exfalso; omega) (fun hlt => ?_) | refine S.lss rfl rfl (fun hlt => ?_) (fun hlt => ?_))
        | (first | refine S.gtr rfl rfl (fun hlt => ?_) (fun hlt => by exfalso; omega) | refine S.gtr rfl rfl (fun hlt => by exfalso; omega) (fun hlt => ?_) | refine S.gtr rfl rfl (fun hlt => ?_) (fun hlt => ?_))
        | (first | refine S.leq rfl rfl (fun hlt => ?_) (fun hlt => by exfalso; omega) | refine S.leq rfl rfl (fun hlt => by exfalso; omega) (fun hlt => ?_) | refine S.leq rfl rfl (fun hlt => ?_) (fun hlt => ?_))
        | (first | refine S.geq rfl rfl (fun hlt => ?_) (fun hlt => by exfalso; omega) | refine S.geq rfl rfl (fun hlt => by exfalso; omega) (fun hlt => ?_) | refine S.geq rfl rfl (fun hlt => ?_) (fun hlt => ?_))
        | (first | refine S.eqInt rfl rfl (fun hlt => ?_) (fun hlt => by exfalso; omega) | refine S.eqInt rfl rfl (fun hlt => by exfalso; omega) (fun hlt => ?_) | refine S.eqInt rfl rfl (fun hlt => ?_) (fun hlt => ?_)))
      | (refine S.op0 rfl ?_; first | refine S.storeS rfl rfl rfl (by rfl) rfl (by first | decide | exact Nat.le_refl _ | exact Nat.le_of_ble_eq_true rfl) ?_ | refine S.store rfl rfl (by (repeat' (first | assumption | exact AHeap.set_same _ _ _ | refine AHeap.get_fresh (by assumption) ?_ | refine AHeap.so ?_ ?_ | exact AHeap.n1 (by assumption) | exact AHeap.n2 (by assumption) | exact AHeap.ne_of (by assumption) (by assumption) | exact AHeap.n4 (by assumption) (by assumption) | exact AHeap.n5 (by assumption) | exact AHeap.n6 (by assumption) | exact AHeap.n7 (by assumption) (by assumption) | exact AHeap.n8 (by assumption) (by assumption))); first | done | fail) rfl rfl rfl (by rfl) rfl ?_)
      | refine S.skip rfl ?_
      | refine S.skip0 rfl ?_
      | refine S.seq ?_
      | refine S.region ?_
      | refine S.regionT ?_
      | refine S.tstep ?_
      | refine S.talt ?_ ?_
      | exact S.tstop
      | refine S.tdone ?_
      | refine S.condT rfl ?_
      | refine S.condF rfl ?_
      | refine RRun.skip ?_
      | refine RRun.block ?_
      | refine RRun.inBlock ?_
      | refine RRun.exit rfl ?_)
    exact S.keep [2, 4, 5] rfl hk
  | succ m ih =>
    intro j o hj hf hk
    have hlt : j < w.length := by omega
    have hd : w.drop j = w[j] :: w.drop (j + 1) := List.drop_eq_getElem_cons hlt
    have hg : (Go.Av.byteCells w)[((j : Nat) : Int).toNat]? = some (Go.Av.byteCell w[j]) := by simp [Go.Av.byteCells, hlt]
    rw [hd, List.foldl_cons] at hk
    obtain ⟨h1, h2⟩ := isDigit_spec (hw w[j] (List.getElem_mem hlt))
    have fin : ∀ o', numStep o w[j] = o' → (∀ n, o' = some n → Fits n) → RRun Try.prog Try.f25 35 (.inLoop r25l0 :: .inBlock 0 :: k) (Env.get [(12, i64 (j + 1 : Nat)), (11, i64 w.length), (10, .sl 1 (Go.Av.byteCells w) .ro), (2, ptr b2), (4, i64 (o'.getD 0)), (5, bl o'.isSome)]) h Q := fun o' e hf' =>
      ih (j + 1) o' (by omega) hf' (by subst e; exact hk)
    refine RRun.inLoop ?_
    cases o with
    | none =>
      have f1 := fin none rfl (fun n e => by cases e)
      repeat' (first
        | refine S.nilK ?_
        | (refine S.op rfl ?_; first
          | refine R.indexAddr rfl rfl (by omega) hg ?_
          | refine R.mv rfl ?_
          | refine R.fieldAddr rfl ?_
          | refine R.fieldAddrR rfl ?_
          | refine R.nilCheck rfl ?_
          | refine R.nilCheckR rfl ?_
          | refine R.loadR rfl rfl ?_
          | refine R.load (by decide) rfl (by (repeat' (first | assumption | exact AHeap.set_same _ _ _ | refine AHeap.get_fresh (by assumption) ?_ | refine AHeap.so ?_ ?_ | exact AHeap.n1 (by assumption) | exact AHeap.n2 (by assumption) | exact AHeap.ne_of (by assumption) (by assumption) | exact AHeap.n4 (by assumption) (by assumption) | exact AHeap.n5 (by assumption) | exact AHeap.n6 (by assumption) | exact AHeap.n7 (by assumption) (by assumption) | exact AHeap.n8 (by assumption) (by assumption))); first | done | fail) rfl ?_
          | refine S.addI rfl rfl (by omega) ?_
          | refine S.subI rfl rfl (by omega) ?_
          | refine S.addU rfl rfl ?_
          | refine S.subU rfl rfl ?_
          | refine S.addUc rfl (by decide) ?_
          | refine S.subUc rfl (by decide) ?_
          | refine S.arith rfl rfl rfl ?_
          | refine R.pickT rfl rfl ?_
          | refine R.pickF rfl rfl ?_
          | refine R.len rfl ?_
          | refine R.lenA rfl ?_
          | refine R.lenStr rfl ?_
          | refine S.convIU rfl (by omega) ?_
          | refine S.convUI rfl (by omega) ?_
          | refine R.convInt rfl ?_
          | refine R.not rfl ?_
          | refine R.eqPtrNil rfl rfl ?_
          | refine R.extract rfl rfl ?_
          | refine R.field rfl rfl ?_
          | refine R.alloc rfl (fun b hb => ?_)
          | refine R.box rfl rfl rfl (fun b hb => ?_)
          | refine R.build rfl rfl ?_
          | refine R.buildSl rfl rfl rfl (by decide) ?_
          | refine R.toStr rfl ?_
          | refine R.convStr rfl ?_
          | refine R.minmax rfl ?_
          | refine R.makeFunc rfl rfl ?_
          | (first | refine S.lss rfl rfl (fun hlt => ?_) (fun hlt => by exfalso; omega) | refine S.lss rfl rfl (fun hlt => by exfalso; omega) (fun hlt => ?_) | refine S.lss rfl rfl (fun hlt => ?_) (fun hlt => ?_))
          | (first | refine S.gtr rfl rfl (fun hlt => ?_) (fun hlt => by exfalso; omega) | refine S.gtr rfl rfl (fun hlt => by exfalso; omega) (fun hlt => ?_) | refine S.gtr rfl rfl (fun hlt => ?_) (fun hlt => ?_))
          | (first | refine S.leq rfl rfl (fun hlt => ?_) (fun hlt => by exfalso; omega) | refine S.leq rfl rfl (fun hlt => by exfalso; omega) (fun hlt => ?_) | refine S.leq rfl rfl (fun hlt => ?_) (fun hlt => ?_))
          | (first | refine S.geq rfl rfl (fun hlt => ?_) (fun hlt => by exfalso; omega) | refine S.geq rfl rfl (fun hlt => by exfalso; omega) (fun hlt => ?_) | refine S.geq rfl rfl (fun hlt => ?_) (fun hlt => ?_))
          | (first | refine S.eqInt rfl rfl (fun hlt => ?_) (fun hlt => by exfalso; omega) | refine S.eqInt rfl rfl (fun hlt => by exfalso; omega) (fun hlt => ?_) | refine S.eqInt rfl rfl (fun hlt => ?_) (fun hlt => ?_)))
        | (refine S.op0 rfl ?_; first | refine S.storeS rfl rfl rfl (by rfl) rfl (by first | decide | exact Nat.le_refl _ | exact Nat.le_of_ble_eq_true rfl) ?_ | refine S.store rfl rfl (by (repeat' (first | assumption | exact AHeap.set_same _ _ _ | refine AHeap.get_fresh (by assumption) ?_ | refine AHeap.so ?_ ?_ | exact AHeap.n1 (by assumption) | exact AHeap.n2 (by assumption) | exact AHeap.ne_of (by assumption) (by assumption) | exact AHeap.n4 (by assumption) (by assumption) | exact AHeap.n5 (by assumption) | exact AHeap.n6 (by assumption) | exact AHeap.n7 (by assumption) (by assumption) | exact AHeap.n8 (by assumption) (by assumption))); first | done | fail) rfl rfl rfl (by rfl) rfl ?_)
        | refine S.skip rfl ?_
        | refine S.skip0 rfl ?_
        | refine S.seq ?_
        | refine S.region ?_
        | refine S.regionT ?_
        | refine S.tstep ?_
        | refine S.talt ?_ ?_
        | exact S.tstop
        | refine S.tdone ?_
        | refine S.condT rfl ?_
        | refine S.condF rfl ?_
        | refine RRun.skip ?_
        | refine RRun.block ?_
        | refine RRun.inBlock ?_
        | refine RRun.exit rfl ?_)
      show RRun _ _ _ _ (Env.get ((12, i64 ((j : Int) + 1)) :: _)) _ _
      rw [show ((j : Int) + 1) = ((j + 1 : Nat) : Int) by omega]
      exact S.keep [12, 11, 10, 2, 4, 5] rfl f1
    | some n =>
      have hn := hf n rfl
      have c1 := mul_spec n 10 hn (by decide) h
      by_cases g1 : Fits (n * 10)
      · rw [show okN (n * 10) = .tu [i64 (n * 10), bl true] by simp only [okN, if_pos g1, decide_eq_true g1]] at c1
        have c2 := add_spec (n * 10) ((w[j].toNat : Int) - 48) g1 (by omega) h
        by_cases g2 : Fits (n * 10 + ((w[j].toNat : Int) - 48))
        · rw [show okN (n * 10 + ((w[j].toNat : Int) - 48)) = .tu [i64 (n * 10 + ((w[j].toNat : Int) - 48)), bl true] by simp only [okN, if_pos g2, decide_eq_true g2]] at c2
          have f1 := fin (some (n * 10 + ((w[j].toNat : Int) - 48))) (by simp only [numStep, if_pos g1, if_pos g2]) (fun m e => by cases e; exact g2)
          repeat' (first
            | refine S.nilK ?_
            | (refine S.op rfl ?_; first
              | refine R.indexAddr rfl rfl (by omega) hg ?_
              | refine R.callQ (by decide) rfl c1 ?_
              | refine R.callQ (by decide) rfl c2 ?_
              | refine sub48 h1 h2 rfl ?_
              | refine conv8 rfl (by omega) ?_
              | refine R.mv rfl ?_
              | refine R.fieldAddr rfl ?_
              | refine R.fieldAddrR rfl ?_
              | refine R.nilCheck rfl ?_
              | refine R.nilCheckR rfl ?_
              | refine R.loadR rfl rfl ?_
              | refine R.load (by decide) rfl (by (repeat' (first | assumption | exact AHeap.set_same _ _ _ | refine AHeap.get_fresh (by assumption) ?_ | refine AHeap.so ?_ ?_ | exact AHeap.n1 (by assumption) | exact AHeap.n2 (by assumption) | exact AHeap.ne_of (by assumption) (by assumption) | exact AHeap.n4 (by assumption) (by assumption) | exact AHeap.n5 (by assumption) | exact AHeap.n6 (by assumption) | exact AHeap.n7 (by assumption) (by assumption) | exact AHeap.n8 (by assumption) (by assumption))); first | done | fail) rfl ?_
              | refine S.addI rfl rfl (by omega) ?_
              | refine S.subI rfl rfl (by omega) ?_
              | refine S.addU rfl rfl ?_
              | refine S.subU rfl rfl ?_
              | refine S.addUc rfl (by decide) ?_
              | refine S.subUc rfl (by decide) ?_
              | refine S.arith rfl rfl rfl ?_
              | refine R.pickT rfl rfl ?_
              | refine R.pickF rfl rfl ?_
              | refine R.len rfl ?_
              | refine R.lenA rfl ?_
              | refine R.lenStr rfl ?_
              | refine S.convIU rfl (by omega) ?_
              | refine S.convUI rfl (by omega) ?_
              | refine R.convInt rfl ?_
              | refine R.not rfl ?_
              | refine R.eqPtrNil rfl rfl ?_
              | refine R.extract rfl rfl ?_
              | refine R.field rfl rfl ?_
              | refine R.alloc rfl (fun b hb => ?_)
              | refine R.box rfl rfl rfl (fun b hb => ?_)
              | refine R.build rfl rfl ?_
              | refine R.buildSl rfl rfl rfl (by decide) ?_
              | refine R.toStr rfl ?_
              | refine R.convStr rfl ?_
              | refine R.minmax rfl ?_
              | refine R.makeFunc rfl rfl ?_
              | (first | refine S.lss rfl rfl (fun hlt => ?_) (fun hlt => by exfalso; omega) | refine S.lss rfl rfl (fun hlt => by exfalso; omega) (fun hlt => ?_) | refine S.lss rfl rfl (fun hlt => ?_) (fun hlt => ?_))
              | (first | refine S.gtr rfl rfl (fun hlt => ?_) (fun hlt => by exfalso; omega) | refine S.gtr rfl rfl (fun hlt => by exfalso; omega) (fun hlt => ?_) | refine S.gtr rfl rfl (fun hlt => ?_) (fun hlt => ?_))
              | (first | refine S.leq rfl rfl (fun hlt => ?_) (fun hlt => by exfalso; omega) | refine S.leq rfl rfl (fun hlt => by exfalso; omega) (fun hlt => ?_) | refine S.leq rfl rfl (fun hlt => ?_) (fun hlt => ?_))
              | (first | refine S.geq rfl rfl (fun hlt => ?_) (fun hlt => by exfalso; omega) | refine S.geq rfl rfl (fun hlt => by exfalso; omega) (fun hlt => ?_) | refine S.geq rfl rfl (fun hlt => ?_) (fun hlt => ?_))
              | (first | refine S.eqInt rfl rfl (fun hlt => ?_) (fun hlt => by exfalso; omega) | refine S.eqInt rfl rfl (fun hlt => by exfalso; omega) (fun hlt => ?_) | refine S.eqInt rfl rfl (fun hlt => ?_) (fun hlt => ?_)))
            | (refine S.op0 rfl ?_; first | refine S.storeS rfl rfl rfl (by rfl) rfl (by first | decide | exact Nat.le_refl _ | exact Nat.le_of_ble_eq_true rfl) ?_ | refine S.store rfl rfl (by (repeat' (first | assumption | exact AHeap.set_same _ _ _ | refine AHeap.get_fresh (by assumption) ?_ | refine AHeap.so ?_ ?_ | exact AHeap.n1 (by assumption) | exact AHeap.n2 (by assumption) | exact AHeap.ne_of (by assumption) (by assumption) | exact AHeap.n4 (by assumption) (by assumption) | exact AHeap.n5 (by assumption) | exact AHeap.n6 (by assumption) | exact AHeap.n7 (by assumption) (by assumption) | exact AHeap.n8 (by assumption) (by assumption))); first | done | fail) rfl rfl rfl (by rfl) rfl ?_)
            | refine S.skip rfl ?_
            | refine S.skip0 rfl ?_
            | refine S.seq ?_
            | refine S.region ?_
            | refine S.regionT ?_
            | refine S.tstep ?_
            | refine S.talt ?_ ?_
            | exact S.tstop
            | refine S.tdone ?_
            | refine S.condT rfl ?_
            | refine S.condF rfl ?_
            | refine RRun.skip ?_
            | refine RRun.block ?_
            | refine RRun.inBlock ?_
            | refine RRun.exit rfl ?_)
          show RRun _ _ _ _ (Env.get ((12, i64 ((j : Int) + 1)) :: _)) _ _
          rw [show ((j : Int) + 1) = ((j + 1 : Nat) : Int) by omega]
          exact S.keep [12, 11, 10, 2, 4, 5] rfl f1
        · rw [show okN (n * 10 + ((w[j].toNat : Int) - 48)) = .tu [i64 0, bl false] by simp only [okN, if_neg g2, decide_eq_false g2]] at c2
          have f1 := fin none (by simp only [numStep, if_pos g1, if_neg g2]) (fun m e => by cases e)
          repeat' (first
            | refine S.nilK ?_
            | (refine S.op rfl ?_; first
              | refine R.indexAddr rfl rfl (by omega) hg ?_
              | refine R.callQ (by decide) rfl c1 ?_
              | refine R.callQ (by decide) rfl c2 ?_
              | refine sub48 h1 h2 rfl ?_
              | refine conv8 rfl (by omega) ?_
              | refine R.mv rfl ?_
              | refine R.fieldAddr rfl ?_
              | refine R.fieldAddrR rfl ?_
              | refine R.nilCheck rfl ?_
              | refine R.nilCheckR rfl ?_
              | refine R.loadR rfl rfl ?_
              | refine R.load (by decide) rfl (by (repeat' (first | assumption | exact AHeap.set_same _ _ _ | refine AHeap.get_fresh (by assumption) ?_ | refine AHeap.so ?_ ?_ | exact AHeap.n1 (by assumption) | exact AHeap.n2 (by assumption) | exact AHeap.ne_of (by assumption) (by assumption) | exact AHeap.n4 (by assumption) (by assumption) | exact AHeap.n5 (by assumption) | exact AHeap.n6 (by assumption) | exact AHeap.n7 (by assumption) (by assumption) | exact AHeap.n8 (by assumption) (by assumption))); first | done | fail) rfl ?_
              | refine S.addI rfl rfl (by omega) ?_
              | refine S.subI rfl rfl (by omega) ?_
              | refine S.addU rfl rfl ?_
              | refine S.subU rfl rfl ?_
              | refine S.addUc rfl (by decide) ?_
              | refine S.subUc rfl (by decide) ?_
              | refine S.arith rfl rfl rfl ?_
              | refine R.pickT rfl rfl ?_
              | refine R.pickF rfl rfl ?_
              | refine R.len rfl ?_
              | refine R.lenA rfl ?_
              | refine R.lenStr rfl ?_
              | refine S.convIU rfl (by omega) ?_
              | refine S.convUI rfl (by omega) ?_
              | refine R.convInt rfl ?_
              | refine R.not rfl ?_
              | refine R.eqPtrNil rfl rfl ?_
              | refine R.extract rfl rfl ?_
              | refine R.field rfl rfl ?_
              | refine R.alloc rfl (fun b hb => ?_)
              | refine R.box rfl rfl rfl (fun b hb => ?_)
              | refine R.build rfl rfl ?_
              | refine R.buildSl rfl rfl rfl (by decide) ?_
              | refine R.toStr rfl ?_
              | refine R.convStr rfl ?_
              | refine R.minmax rfl ?_
              | refine R.makeFunc rfl rfl ?_
              | (first | refine S.lss rfl rfl (fun hlt => ?_) (fun hlt => by exfalso; omega) | refine S.lss rfl rfl (fun hlt => by exfalso; omega) (fun hlt => ?_) | refine S.lss rfl rfl (fun hlt => ?_) (fun hlt => ?_))
              | (first | refine S.gtr rfl rfl (fun hlt => ?_) (fun hlt => by exfalso; omega) | refine S.gtr rfl rfl (fun hlt => by exfalso; omega) (fun hlt => ?_) | refine S.gtr rfl rfl (fun hlt => ?_) (fun hlt => ?_))
              | (first | refine S.leq rfl rfl (fun hlt => ?_) (fun hlt => by exfalso; omega) | refine S.leq rfl rfl (fun hlt => by exfalso; omega) (fun hlt => ?_) | refine S.leq rfl rfl (fun hlt => ?_) (fun hlt => ?_))
              | (first | refine S.geq rfl rfl (fun hlt => ?_) (fun hlt => by exfalso; omega) | refine S.geq rfl rfl (fun hlt => by exfalso; omega) (fun hlt => ?_) | refine S.geq rfl rfl (fun hlt => ?_) (fun hlt => ?_))
              | (first | refine S.eqInt rfl rfl (fun hlt => ?_) (fun hlt => by exfalso; omega) | refine S.eqInt rfl rfl (fun hlt => by exfalso; omega) (fun hlt => ?_) | refine S.eqInt rfl rfl (fun hlt => ?_) (fun hlt => ?_)))
            | (refine S.op0 rfl ?_; first | refine S.storeS rfl rfl rfl (by rfl) rfl (by first | decide | exact Nat.le_refl _ | exact Nat.le_of_ble_eq_true rfl) ?_ | refine S.store rfl rfl (by (repeat' (first | assumption | exact AHeap.set_same _ _ _ | refine AHeap.get_fresh (by assumption) ?_ | refine AHeap.so ?_ ?_ | exact AHeap.n1 (by assumption) | exact AHeap.n2 (by assumption) | exact AHeap.ne_of (by assumption) (by assumption) | exact AHeap.n4 (by assumption) (by assumption) | exact AHeap.n5 (by assumption) | exact AHeap.n6 (by assumption) | exact AHeap.n7 (by assumption) (by assumption) | exact AHeap.n8 (by assumption) (by assumption))); first | done | fail) rfl rfl rfl (by rfl) rfl ?_)
            | refine S.skip rfl ?_
            | refine S.skip0 rfl ?_
            | refine S.seq ?_
            | refine S.region ?_
            | refine S.regionT ?_
            | refine S.tstep ?_
            | refine S.talt ?_ ?_
            | exact S.tstop
            | refine S.tdone ?_
            | refine S.condT rfl ?_
            | refine S.condF rfl ?_
            | refine RRun.skip ?_
            | refine RRun.block ?_
            | refine RRun.inBlock ?_
            | refine RRun.exit rfl ?_)
          show RRun _ _ _ _ (Env.get ((12, i64 ((j : Int) + 1)) :: _)) _ _
          rw [show ((j : Int) + 1) = ((j + 1 : Nat) : Int) by omega]
          exact S.keep [12, 11, 10, 2, 4, 5] rfl f1
      · rw [show okN (n * 10) = .tu [i64 0, bl false] by simp only [okN, if_neg g1, decide_eq_false g1]] at c1
        have f1 := fin none (by simp only [numStep, if_neg g1]) (fun m e => by cases e)
        repeat' (first
          | refine S.nilK ?_
          | (refine S.op rfl ?_; first
            | refine R.indexAddr rfl rfl (by omega) hg ?_
            | refine R.callQ (by decide) rfl c1 ?_
            | refine R.mv rfl ?_
            | refine R.fieldAddr rfl ?_
            | refine R.fieldAddrR rfl ?_
            | refine R.nilCheck rfl ?_
            | refine R.nilCheckR rfl ?_
            | refine R.loadR rfl rfl ?_
            | refine R.load (by decide) rfl (by (repeat' (first | assumption | exact AHeap.set_same _ _ _ | refine AHeap.get_fresh (by assumption) ?_ | refine AHeap.so ?_ ?_ | exact AHeap.n1 (by assumption) | exact AHeap.n2 (by assumption) | exact AHeap.ne_of (by assumption) (by assumption) | exact AHeap.n4 (by assumption) (by assumption) | exact AHeap.n5 (by assumption) | exact AHeap.n6 (by assumption) | exact AHeap.n7 (by assumption) (by assumption) | exact AHeap.n8 (by assumption) (by assumption))); first | done | fail) rfl ?_
            | refine S.addI rfl rfl (by omega) ?_
            | refine S.subI rfl rfl (by omega) ?_
            | refine S.addU rfl rfl ?_
            | refine S.subU rfl rfl ?_
            | refine S.addUc rfl (by decide) ?_
            | refine S.subUc rfl (by decide) ?_
            | refine S.arith rfl rfl rfl ?_
            | refine R.pickT rfl rfl ?_
            | refine R.pickF rfl rfl ?_
            | refine R.len rfl ?_
            | refine R.lenA rfl ?_
            | refine R.lenStr rfl ?_
            | refine S.convIU rfl (by omega) ?_
            | refine S.convUI rfl (by omega) ?_
            | refine R.convInt rfl ?_
            | refine R.not rfl ?_
            | refine R.eqPtrNil rfl rfl ?_
            | refine R.extract rfl rfl ?_
            | refine R.field rfl rfl ?_
            | refine R.alloc rfl (fun b hb => ?_)
            | refine R.box rfl rfl rfl (fun b hb => ?_)
            | refine R.build rfl rfl ?_
            | refine R.buildSl rfl rfl rfl (by decide) ?_
            | refine R.toStr rfl ?_
            | refine R.convStr rfl ?_
            | refine R.minmax rfl ?_
            | refine R.makeFunc rfl rfl ?_
            | (first | refine S.lss rfl rfl (fun hlt => ?_) (fun hlt => by exfalso; omega) | refine S.lss rfl rfl (fun hlt => by exfalso; omega) (fun hlt => ?_) | refine S.lss rfl rfl (fun hlt => ?_) (fun hlt => ?_))
            | (first | refine S.gtr rfl rfl (fun hlt => ?_) (fun hlt => by exfalso; omega) | refine S.gtr rfl rfl (fun hlt => by exfalso; omega) (fun hlt => ?_) | refine S.gtr rfl rfl (fun hlt => ?_) (fun hlt => ?_))
            | (first | refine S.leq rfl rfl (fun hlt => ?_) (fun hlt => by exfalso; omega) | refine S.leq rfl rfl (fun hlt => by exfalso; omega) (fun hlt => ?_) | refine S.leq rfl rfl (fun hlt => ?_) (fun hlt => ?_))
            | (first | refine S.geq rfl rfl (fun hlt => ?_) (fun hlt => by exfalso; omega) | refine S.geq rfl rfl (fun hlt => by exfalso; omega) (fun hlt => ?_) | refine S.geq rfl rfl (fun hlt => ?_) (fun hlt => ?_))
            | (first | refine S.eqInt rfl rfl (fun hlt => ?_) (fun hlt => by exfalso; omega) | refine S.eqInt rfl rfl (fun hlt => by exfalso; omega) (fun hlt => ?_) | refine S.eqInt rfl rfl (fun hlt => ?_) (fun hlt => ?_)))
          | (refine S.op0 rfl ?_; first | refine S.storeS rfl rfl rfl (by rfl) rfl (by first | decide | exact Nat.le_refl _ | exact Nat.le_of_ble_eq_true rfl) ?_ | refine S.store rfl rfl (by (repeat' (first | assumption | exact AHeap.set_same _ _ _ | refine AHeap.get_fresh (by assumption) ?_ | refine AHeap.so ?_ ?_ | exact AHeap.n1 (by assumption) | exact AHeap.n2 (by assumption) | exact AHeap.ne_of (by assumption) (by assumption) | exact AHeap.n4 (by assumption) (by assumption) | exact AHeap.n5 (by assumption) | exact AHeap.n6 (by assumption) | exact AHeap.n7 (by assumption) (by assumption) | exact AHeap.n8 (by assumption) (by assumption))); first | done | fail) rfl rfl rfl (by rfl) rfl ?_)
          | refine S.skip rfl ?_
          | refine S.skip0 rfl ?_
          | refine S.seq ?_
          | refine S.region ?_
          | refine S.regionT ?_
          | refine S.tstep ?_
          | refine S.talt ?_ ?_
          | exact S.tstop
          | refine S.tdone ?_
          | refine S.condT rfl ?_
          | refine S.condF rfl ?_
          | refine RRun.skip ?_
          | refine RRun.block ?_
          | refine RRun.inBlock ?_
          | refine RRun.exit rfl ?_)
        show RRun _ _ _ _ (Env.get ((12, i64 ((j : Int) + 1)) :: _)) _ _
        rw [show ((j : Int) + 1) = ((j + 1 : Nat) : Int) by omega]
        exact S.keep [12, 11, 10, 2, 4, 5] rfl f1

def digits (t : List UInt8) : List UInt8 := t.takeWhile isDigit
def numO (t : List UInt8) : Option Int := (digits t).foldl numStep (some 0)

theorem number_spec (s : List UInt8) (hs : s.length ≤ 4611686018427387904) (p i : Nat) (hi : i ≤ s.length) (h : AHeap) (hp : h p = some (.box (cut s i))) :
    ACalls Try.prog 25 [ptr p] h (fun x h' => x = .tu [.ag (Tok.cells ⟨2, [], (numO (s.drop i)).getD 0, 0⟩), bl (numO (s.drop i)).isSome] ∧ h' = h.set p (.box (cut s (i + (digits (s.drop i)).length)))) := by
  obtain ⟨c, hc1, hc2⟩ := res25
  refine ACalls.weak (ACalls.enter Try.func25 hc1 Try.ntmps25 hc2 (Nat.le_of_ble_eq_true rfl) rfl ?_)
  have hlen : (digits (s.drop i)).length ≤ s.length - i := by
    have := (List.takeWhile_prefix (l := s.drop i) isDigit).length_le
    simp at this; exact this
  repeat' (first
    | refine S.nilK ?_
    | (refine S.op rfl ?_; first
      | refine callS rfl rfl (run_spec tells_digit s hs p i hi _ (by (repeat' (first | assumption | exact AHeap.set_same _ _ _ | refine AHeap.get_fresh (by assumption) ?_ | refine AHeap.so ?_ ?_ | exact AHeap.n1 (by assumption) | exact AHeap.n2 (by assumption) | exact AHeap.ne_of (by assumption) (by assumption) | exact AHeap.n4 (by assumption) (by assumption) | exact AHeap.n5 (by assumption) | exact AHeap.n6 (by assumption) | exact AHeap.n7 (by assumption) (by assumption) | exact AHeap.n8 (by assumption) (by assumption))); first | done | fail)) ?_
      | refine S.toBytesS rfl (by simp only [maxLen]; show (digits _).length ≤ _; omega) ?_
      | refine R.mv rfl ?_
      | refine R.fieldAddr rfl ?_
      | refine R.fieldAddrR rfl ?_
      | refine R.nilCheck rfl ?_
      | refine R.nilCheckR rfl ?_
      | refine R.loadR rfl rfl ?_
      | refine R.load (by decide) rfl (by (repeat' (first | assumption | exact AHeap.set_same _ _ _ | refine AHeap.get_fresh (by assumption) ?_ | refine AHeap.so ?_ ?_ | exact AHeap.n1 (by assumption) | exact AHeap.n2 (by assumption) | exact AHeap.ne_of (by assumption) (by assumption) | exact AHeap.n4 (by assumption) (by assumption) | exact AHeap.n5 (by assumption) | exact AHeap.n6 (by assumption) | exact AHeap.n7 (by assumption) (by assumption) | exact AHeap.n8 (by assumption) (by assumption))); first | done | fail) rfl ?_
      | refine S.addI rfl rfl (by omega) ?_
      | refine S.subI rfl rfl (by omega) ?_
      | refine S.addU rfl rfl ?_
      | refine S.subU rfl rfl ?_
      | refine S.addUc rfl (by decide) ?_
      | refine S.subUc rfl (by decide) ?_
      | refine S.arith rfl rfl rfl ?_
      | refine R.pickT rfl rfl ?_
      | refine R.pickF rfl rfl ?_
      | refine R.len rfl ?_
      | refine R.lenA rfl ?_
      | refine R.lenStr rfl ?_
      | refine S.convIU rfl (by omega) ?_
      | refine S.convUI rfl (by omega) ?_
      | refine R.convInt rfl ?_
      | refine R.not rfl ?_
      | refine R.eqPtrNil rfl rfl ?_
      | refine R.extract rfl rfl ?_
      | refine R.field rfl rfl ?_
      | refine R.alloc rfl (fun b hb => ?_)
      | refine R.box rfl rfl rfl (fun b hb => ?_)
      | refine R.build rfl rfl ?_
      | refine R.buildSl rfl rfl rfl (by decide) ?_
      | refine R.toStr rfl ?_
      | refine R.convStr rfl ?_
      | refine R.minmax rfl ?_
      | refine R.makeFunc rfl rfl ?_
      | (first | refine S.lss rfl rfl (fun hlt => ?_) (fun hlt => by exfalso; omega) | refine S.lss rfl rfl (fun hlt => by exfalso; omega) (fun hlt => ?_) | refine S.lss rfl rfl (fun hlt => ?_) (fun hlt => ?_))
      | (first | refine S.gtr rfl rfl (fun hlt => ?_) (fun hlt => by exfalso; omega) | refine S.gtr rfl rfl (fun hlt => by exfalso; omega) (fun hlt => ?_) | refine S.gtr rfl rfl (fun hlt => ?_) (fun hlt => ?_))
      | (first | refine S.leq rfl rfl (fun hlt => ?_) (fun hlt => by exfalso; omega) | refine S.leq rfl rfl (fun hlt => by exfalso; omega) (fun hlt => ?_) | refine S.leq rfl rfl (fun hlt => ?_) (fun hlt => ?_))
      | (first | refine S.geq rfl rfl (fun hlt => ?_) (fun hlt => by exfalso; omega) | refine S.geq rfl rfl (fun hlt => by exfalso; omega) (fun hlt => ?_) | refine S.geq rfl rfl (fun hlt => ?_) (fun hlt => ?_))
      | (first | refine S.eqInt rfl rfl (fun hlt => ?_) (fun hlt => by exfalso; omega) | refine S.eqInt rfl rfl (fun hlt => by exfalso; omega) (fun hlt => ?_) | refine S.eqInt rfl rfl (fun hlt => ?_) (fun hlt => ?_)))
    | (refine S.op0 rfl ?_; first | refine S.storeS rfl rfl rfl (by rfl) rfl (by first | decide | exact Nat.le_refl _ | exact Nat.le_of_ble_eq_true rfl) ?_ | refine S.store rfl rfl (by (repeat' (first | assumption | exact AHeap.set_same _ _ _ | refine AHeap.get_fresh (by assumption) ?_ | refine AHeap.so ?_ ?_ | exact AHeap.n1 (by assumption) | exact AHeap.n2 (by assumption) | exact AHeap.ne_of (by assumption) (by assumption) | exact AHeap.n4 (by assumption) (by assumption) | exact AHeap.n5 (by assumption) | exact AHeap.n6 (by assumption) | exact AHeap.n7 (by assumption) (by assumption) | exact AHeap.n8 (by assumption) (by assumption))); first | done | fail) rfl rfl rfl (by rfl) rfl ?_)
    | refine S.skip rfl ?_
    | refine S.skip0 rfl ?_
    | refine S.seq ?_
    | refine S.region ?_
    | refine S.regionT ?_
    | refine S.tstep ?_
    | refine S.talt ?_ ?_
    | exact S.tstop
    | refine S.tdone ?_
    | refine S.condT rfl ?_
    | refine S.condF rfl ?_
    | refine RRun.skip ?_
    | refine RRun.block ?_
    | refine RRun.inBlock ?_
    | refine RRun.exit rfl ?_)
  revert b hb; intro b2 hb2
  refine RRun.loopIn (S.keep [12, 11, 10, 2, 4, 5] rfl ?_)
  rw [Go.Av.len_bytes]
  refine number_loop (digits (s.drop i)) (List.all_eq_true.1 List.all_takeWhile) (by omega) p b2 _ _ _ (digits (s.drop i)).length 0 (some 0) (by omega) (fun n e => by cases e; decide) ?_
  repeat' (first
    | refine S.nilK ?_
    | (refine S.op rfl ?_; first
      | refine R.mv rfl ?_
      | refine R.fieldAddr rfl ?_
      | refine R.fieldAddrR rfl ?_
      | refine R.nilCheck rfl ?_
      | refine R.nilCheckR rfl ?_
      | refine R.loadR rfl rfl ?_
      | refine R.load (by decide) rfl (by (repeat' (first | assumption | exact AHeap.set_same _ _ _ | refine AHeap.get_fresh (by assumption) ?_ | refine AHeap.so ?_ ?_ | exact AHeap.n1 (by assumption) | exact AHeap.n2 (by assumption) | exact AHeap.ne_of (by assumption) (by assumption) | exact AHeap.n4 (by assumption) (by assumption) | exact AHeap.n5 (by assumption) | exact AHeap.n6 (by assumption) | exact AHeap.n7 (by assumption) (by assumption) | exact AHeap.n8 (by assumption) (by assumption))); first | done | fail) rfl ?_
      | refine S.addI rfl rfl (by omega) ?_
      | refine S.subI rfl rfl (by omega) ?_
      | refine S.addU rfl rfl ?_
      | refine S.subU rfl rfl ?_
      | refine S.addUc rfl (by decide) ?_
      | refine S.subUc rfl (by decide) ?_
      | refine S.arith rfl rfl rfl ?_
      | refine R.pickT rfl rfl ?_
      | refine R.pickF rfl rfl ?_
      | refine R.len rfl ?_
      | refine R.lenA rfl ?_
      | refine R.lenStr rfl ?_
      | refine S.convIU rfl (by omega) ?_
      | refine S.convUI rfl (by omega) ?_
      | refine R.convInt rfl ?_
      | refine R.not rfl ?_
      | refine R.eqPtrNil rfl rfl ?_
      | refine R.extract rfl rfl ?_
      | refine R.field rfl rfl ?_
      | refine R.alloc rfl (fun b hb => ?_)
      | refine R.box rfl rfl rfl (fun b hb => ?_)
      | refine R.build rfl rfl ?_
      | refine R.buildSl rfl rfl rfl (by decide) ?_
      | refine R.toStr rfl ?_
      | refine R.convStr rfl ?_
      | refine R.minmax rfl ?_
      | refine R.makeFunc rfl rfl ?_
      | (first | refine S.lss rfl rfl (fun hlt => ?_) (fun hlt => by exfalso; omega) | refine S.lss rfl rfl (fun hlt => by exfalso; omega) (fun hlt => ?_) | refine S.lss rfl rfl (fun hlt => ?_) (fun hlt => ?_))
      | (first | refine S.gtr rfl rfl (fun hlt => ?_) (fun hlt => by exfalso; omega) | refine S.gtr rfl rfl (fun hlt => by exfalso; omega) (fun hlt => ?_) | refine S.gtr rfl rfl (fun hlt => ?_) (fun hlt => ?_))
      | (first | refine S.leq rfl rfl (fun hlt => ?_) (fun hlt => by exfalso; omega) | refine S.leq rfl rfl (fun hlt => by exfalso; omega) (fun hlt => ?_) | refine S.leq rfl rfl (fun hlt => ?_) (fun hlt => ?_))
      | (first | refine S.geq rfl rfl (fun hlt => ?_) (fun hlt => by exfalso; omega) | refine S.geq rfl rfl (fun hlt => by exfalso; omega) (fun hlt => ?_) | refine S.geq rfl rfl (fun hlt => ?_) (fun hlt => ?_))
      | (first | refine S.eqInt rfl rfl (fun hlt => ?_) (fun hlt => by exfalso; omega) | refine S.eqInt rfl rfl (fun hlt => by exfalso; omega) (fun hlt => ?_) | refine S.eqInt rfl rfl (fun hlt => ?_) (fun hlt => ?_)))
    | (refine S.op0 rfl ?_; first | refine S.storeS rfl rfl rfl (by rfl) rfl (by first | decide | exact Nat.le_refl _ | exact Nat.le_of_ble_eq_true rfl) ?_ | refine S.store rfl rfl (by (repeat' (first | assumption | exact AHeap.set_same _ _ _ | refine AHeap.get_fresh (by assumption) ?_ | refine AHeap.so ?_ ?_ | exact AHeap.n1 (by assumption) | exact AHeap.n2 (by assumption) | exact AHeap.ne_of (by assumption) (by assumption) | exact AHeap.n4 (by assumption) (by assumption) | exact AHeap.n5 (by assumption) | exact AHeap.n6 (by assumption) | exact AHeap.n7 (by assumption) (by assumption) | exact AHeap.n8 (by assumption) (by assumption))); first | done | fail) rfl rfl rfl (by rfl) rfl ?_)
    | refine S.skip rfl ?_
    | refine S.skip0 rfl ?_
    | refine S.seq ?_
    | refine S.region ?_
    | refine S.regionT ?_
    | refine S.tstep ?_
    | refine S.talt ?_ ?_
    | exact S.tstop
    | refine S.tdone ?_
    | refine S.condT rfl ?_
    | refine S.condF rfl ?_
    | refine RRun.skip ?_
    | refine RRun.block ?_
    | refine RRun.inBlock ?_
    | refine RRun.exit rfl ?_)
  apply S.ret rr25
  case hx => repeat (first | exact ResAt.nil | apply ResAt.tmp rfl | apply ResAt.cellA rfl (by (repeat' (first | assumption | exact AHeap.set_same _ _ _ | refine AHeap.get_fresh (by assumption) ?_ | refine AHeap.so ?_ ?_ | exact AHeap.n1 (by assumption) | exact AHeap.n2 (by assumption) | exact AHeap.ne_of (by assumption) (by assumption) | exact AHeap.n4 (by assumption) (by assumption) | exact AHeap.n5 (by assumption) | exact AHeap.n6 (by assumption) | exact AHeap.n7 (by assumption) (by assumption) | exact AHeap.n8 (by assumption) (by assumption))); first | done | fail) (by rfl) | apply ResAt.cell1 rfl (by (repeat' (first | assumption | exact AHeap.set_same _ _ _ | refine AHeap.get_fresh (by assumption) ?_ | refine AHeap.so ?_ ?_ | exact AHeap.n1 (by assumption) | exact AHeap.n2 (by assumption) | exact AHeap.ne_of (by assumption) (by assumption) | exact AHeap.n4 (by assumption) (by assumption) | exact AHeap.n5 (by assumption) | exact AHeap.n6 (by assumption) | exact AHeap.n7 (by assumption) (by assumption) | exact AHeap.n8 (by assumption) (by assumption))); first | done | fail) (by rfl))
  exact ⟨_, _, .refl _, (by repeat (first | exact AHeap.le.refl _ | refine AHeap.le.set ?_ _ (by (repeat' (first | assumption | exact AHeap.z1 (by assumption) | exact AHeap.z2 (by assumption) | exact AHeap.z3 (by assumption) | refine AHeap.so ?_ ?_ | exact AHeap.n1 (by assumption) | exact AHeap.n2 (by assumption) | exact AHeap.ne_of (by assumption) (by assumption) | exact AHeap.n4 (by assumption) (by assumption) | exact AHeap.n5 (by assumption) | exact AHeap.n6 (by assumption) | exact AHeap.n7 (by assumption) (by assumption) | exact AHeap.n8 (by assumption) (by assumption))); first | done | fail) | refine AHeap.le.both ?_ _ _)), rfl, rfl⟩

/-! ### A word -/

def r23l0 : RCode :=
  (.seq (.region [
    ⟨(some 12), none, .act, .bin .lss (.tmp 11) (.tmp 10)⟩])
  (.seq (.cond (.tmp 12)
   .skip
   (.exit 0))
  (.seq (.block 1
   (.seq (.region [
     ⟨(some 13), none, .act, .mv (.tmp 11)⟩,
     ⟨(some 14), none, .act, .indexAddr 1 (.tmp 9) (.tmp 11)⟩,
     ⟨(some 15), none, .act, .load false 1 (.tmp 14)⟩,
     ⟨(some 4), none, .act, .mv (.tmp 13)⟩,
     ⟨(some 5), none, .act, .mv (.tmp 15)⟩])
   (.region [
     ⟨(some 16), none, .act, .mv (.tmp 3)⟩,
     ⟨(some 17), none, .act, .mv (.tmp 4)⟩,
     ⟨(some 18), none, .act, .mv (.tmp 5)⟩,
     ⟨(some 19), none, .act, .call 31 [(.tmp 18)]⟩,
     ⟨(some 20), none, .act, .indexAddr 1 (.tmp 16) (.tmp 17)⟩,
     ⟨none, none, .act, .store 1 (.tmp 20) (.tmp 19)⟩])))
  (.region [
    ⟨(some 21), none, .act, .bin .add (.tmp 11) (.const (.int .i64 1))⟩,
    ⟨(some 11), none, .act, .mv (.tmp 21)⟩]))))
/-- (*plenum/lex.cutter).word -/
def r23 : RCode :=
  (.seq (.region [
    ⟨(some 2), none, .act, .alloc [(.int .i64 0), (.string ⟨#[]⟩), (.int .i64 0), (.int .i64 0)]⟩])
  (.seq (.region [
    ⟨(some 6), none, .act, .mv (.tmp 0)⟩,
    ⟨(some 7), none, .act, .call 15 [(.tmp 6), (.func 30)]⟩,
    ⟨(some 8), none, .act, .toBytes (.tmp 7)⟩,
    ⟨(some 3), none, .act, .mv (.tmp 8)⟩])
  (.seq (.seq (.region [
    ⟨(some 9), none, .act, .mv (.tmp 3)⟩,
    ⟨(some 10), none, .act, .len (.tmp 9)⟩,
    ⟨(some 11), none, .act, .mv (.const (.int .i64 0))⟩])
  (.block 0
   (.loop r23l0)))
  (.seq (.region [
    ⟨(some 22), none, .act, .mv (.tmp 3)⟩,
    ⟨(some 23), none, .act, .toStr (.tmp 22)⟩,
    ⟨(some 24), none, .act, .build [(.int .i64 0), (.string ⟨#[]⟩), (.int .i64 0), (.int .i64 0)] [(0, 1, (.const (.int .i64 1))), (1, 1, (.tmp 23))]⟩,
    ⟨none, none, .act, .store 4 (.tmp 2) (.tmp 24)⟩])
  .ret))))
theorem res23 : ∃ c, Try.f23.body = some c ∧ resCode Try.prog 25 c = some r23 := ⟨_, rfl, by kernel_rfl⟩
theorem rr23 : resRes Try.prog Try.f23.results.toList = some [.cell 2 true 4] := by kernel_rfl
theorem word_loop (w : List UInt8) (hl : w.length ≤ 4611686018427387904) (r cap b2 : Nat) (sp : List AV) (k : List RT) (Q : AV → AHeap → Prop) : ∀ (m j : Nat) (h : AHeap), j + m = w.length → h r = some (.row ((w.take j).map (fun c => u8 (small c)) ++ (w.drop j).map u8 ++ sp)) →
    RRun Try.prog Try.f23 25 k (Env.get [(2, ptr b2), (3, slAt r 0 w.length cap)]) (h.set r (.row (w.map (fun c => u8 (small c)) ++ sp))) Q →
    RRun Try.prog Try.f23 25 (.inLoop r23l0 :: .inBlock 0 :: k) (Env.get [(11, i64 j), (10, i64 w.length), (9, slAt r 0 w.length cap), (2, ptr b2), (3, slAt r 0 w.length cap)]) h Q := by
  intro m
  induction m with
  | zero =>
    intro j h hj hr hk
    have hd : w.drop j = [] := by simp; omega
    have ht : w.take j = w := List.take_of_length_le (by omega)
    rw [hd, ht, List.map_nil, List.append_nil] at hr
    rw [AHeap.set_eq h hr] at hk
    refine RRun.inLoop ?_
    repeat' (first
      | refine S.nilK ?_
      | (refine S.op rfl ?_; first
        | refine R.mv rfl ?_
        | refine R.fieldAddr rfl ?_
        | refine R.fieldAddrR rfl ?_
        | refine R.nilCheck rfl ?_
        | refine R.nilCheckR rfl ?_
        | refine R.loadR rfl rfl ?_
        | refine R.load (by decide) rfl (by (repeat' (first | assumption | exact AHeap.set_same _ _ _ | refine AHeap.get_fresh (by assumption) ?_ | refine AHeap.so ?_ ?_ | exact AHeap.n1 (by assumption) | exact AHeap.n2 (by assumption) | exact AHeap.ne_of (by assumption) (by assumption) | exact AHeap.n4 (by assumption) (by assumption) | exact AHeap.n5 (by assumption) | exact AHeap.n6 (by assumption) | exact AHeap.n7 (by assumption) (by assumption) | exact AHeap.n8 (by assumption) (by assumption))); first | done | fail) rfl ?_
        | refine S.addI rfl rfl (by omega) ?_
        | refine S.subI rfl rfl (by omega) ?_
        | refine S.addU rfl rfl ?_
        | refine S.subU rfl rfl ?_
        | refine S.addUc rfl (by decide) ?_
        | refine S.subUc rfl (by decide) ?_
        | refine S.arith rfl rfl rfl ?_
        | refine R.pickT rfl rfl ?_
        | refine R.pickF rfl rfl ?_
        | refine R.len rfl ?_
        | refine R.lenA rfl ?_
        | refine R.lenStr rfl ?_
        | refine S.convIU rfl (by omega) ?_
        | refine S.convUI rfl (by omega) ?_
        | refine R.convInt rfl ?_
        | refine R.not rfl ?_
        | refine R.eqPtrNil rfl rfl ?_
        | refine R.extract rfl rfl ?_
        | refine R.field rfl rfl ?_
        | refine R.alloc rfl (fun b hb => ?_)
        | refine R.box rfl rfl rfl (fun b hb => ?_)
        | refine R.build rfl rfl ?_
        | refine R.buildSl rfl rfl rfl (by decide) ?_
        | refine R.toStr rfl ?_
        | refine R.convStr rfl ?_
        | refine R.minmax rfl ?_
        | refine R.makeFunc rfl rfl ?_
        | (first | refine S.lss rfl rfl (fun hlt => ?_) (fun hlt => by exfalso; omega) | refine S.lss rfl rfl (fun hlt => by exfalso; omega) (fun hlt => ?_) | refine S.lss rfl rfl (fun hlt => ?_) (fun hlt => ?_))
        | (first | refine S.gtr rfl rfl (fun hlt => ?_) (fun hlt => by exfalso; omega) | refine S.gtr rfl rfl (fun hlt => by exfalso; omega) (fun hlt => ?_) | refine S.gtr rfl rfl (fun hlt => ?_) (fun hlt => ?_))
        | (first | refine S.leq rfl rfl (fun hlt => ?_) (fun hlt => by exfalso; omega) | refine S.leq rfl rfl (fun hlt => by exfalso; omega) (fun hlt => ?_) | refine S.leq rfl rfl (fun hlt => ?_) (fun hlt => ?_))
        | (first | refine S.geq rfl rfl (fun hlt => ?_) (fun hlt => by exfalso; omega) | refine S.geq rfl rfl (fun hlt => by exfalso; omega) (fun hlt => ?_) | refine S.geq rfl rfl (fun hlt => ?_) (fun hlt => ?_))
        | (first | refine S.eqInt rfl rfl (fun hlt => ?_) (fun hlt => by exfalso; omega) | refine S.eqInt rfl rfl (fun hlt => by exfalso; omega) (fun hlt => ?_) | refine S.eqInt rfl rfl (fun hlt => ?_) (fun hlt => ?_)))
      | (refine S.op0 rfl ?_; first | refine S.storeS rfl rfl rfl (by rfl) rfl (by first | decide | exact Nat.le_refl _ | exact Nat.le_of_ble_eq_true rfl) ?_ | refine S.store rfl rfl (by (repeat' (first | assumption | exact AHeap.set_same _ _ _ | refine AHeap.get_fresh (by assumption) ?_ | refine AHeap.so ?_ ?_ | exact AHeap.n1 (by assumption) | exact AHeap.n2 (by assumption) | exact AHeap.ne_of (by assumption) (by assumption) | exact AHeap.n4 (by assumption) (by assumption) | exact AHeap.n5 (by assumption) | exact AHeap.n6 (by assumption) | exact AHeap.n7 (by assumption) (by assumption) | exact AHeap.n8 (by assumption) (by assumption))); first | done | fail) rfl rfl rfl (by rfl) rfl ?_)
      | refine S.skip rfl ?_
      | refine S.skip0 rfl ?_
      | refine S.seq ?_
      | refine S.region ?_
      | refine S.regionT ?_
      | refine S.tstep ?_
      | refine S.talt ?_ ?_
      | exact S.tstop
      | refine S.tdone ?_
      | refine S.condT rfl ?_
      | refine S.condF rfl ?_
      | refine RRun.skip ?_
      | refine RRun.block ?_
      | refine RRun.inBlock ?_
      | refine RRun.exit rfl ?_)
    exact S.keep [2, 3] rfl hk
  | succ m ih =>
    intro j h hj hr hk
    have hlt : j < w.length := by omega
    have hd : w.drop j = w[j] :: w.drop (j + 1) := List.drop_eq_getElem_cons hlt
    have ht : w.take (j + 1) = w.take j ++ [w[j]] := by rw [List.take_add_one]; simp [hlt]
    have htl : (w.take j).length = j := by simp; omega
    have hld : loadAV false 1 (((w.take j).map (fun c => u8 (small c)) ++ (w.drop j).map u8 ++ sp).drop (0 + ((j : Nat) : Int).toNat * 1)) = some (u8 w[j]) := by
      have e : 0 + ((j : Nat) : Int).toNat * 1 = ((w.take j).map (fun c => u8 (small c))).length := by simp; omega
      rw [e, List.append_assoc, List.drop_left, hd]
      rfl
    have hset : ((w.take j).map (fun c => u8 (small c)) ++ (w.drop j).map u8 ++ sp).set (0 + ((j : Nat) : Int).toNat * 1) (u8 (small w[j])) = (w.take (j + 1)).map (fun c => u8 (small c)) ++ (w.drop (j + 1)).map u8 ++ sp := by
      have e : 0 + ((j : Nat) : Int).toNat * 1 = ((w.take j).map (fun c => u8 (small c))).length := by simp; omega
      rw [e, List.append_assoc, List.set_append_right _ _ (Nat.le_refl _), Nat.sub_self, hd, ht, List.map_cons, List.cons_append, List.set_cons_zero, List.map_append, List.map_cons, List.map_nil]
      simp only [List.append_assoc, List.cons_append, List.nil_append]
    have hfit : 0 + ((j : Nat) : Int).toNat * 1 < ((w.take j).map (fun c => u8 (small c)) ++ (w.drop j).map u8 ++ sp).length := by simp; omega
    have c1 := small_spec w[j] h
    refine RRun.inLoop ?_
    repeat' (first
      | (refine S.op0 rfl (R.storeRow rfl rfl hr rfl rfl hfit ?_))
      | refine S.nilK ?_
      | (refine S.op rfl ?_; first
        | refine R.indexAddrV rfl rfl (by omega) (by omega) ?_
        | refine R.loadRow (by decide) rfl hr hld ?_
        | refine R.callQ (by decide) rfl c1 ?_
        | refine R.mv rfl ?_
        | refine R.fieldAddr rfl ?_
        | refine R.fieldAddrR rfl ?_
        | refine R.nilCheck rfl ?_
        | refine R.nilCheckR rfl ?_
        | refine R.loadR rfl rfl ?_
        | refine R.load (by decide) rfl (by (repeat' (first | assumption | exact AHeap.set_same _ _ _ | refine AHeap.get_fresh (by assumption) ?_ | refine AHeap.so ?_ ?_ | exact AHeap.n1 (by assumption) | exact AHeap.n2 (by assumption) | exact AHeap.ne_of (by assumption) (by assumption) | exact AHeap.n4 (by assumption) (by assumption) | exact AHeap.n5 (by assumption) | exact AHeap.n6 (by assumption) | exact AHeap.n7 (by assumption) (by assumption) | exact AHeap.n8 (by assumption) (by assumption))); first | done | fail) rfl ?_
        | refine S.addI rfl rfl (by omega) ?_
        | refine S.subI rfl rfl (by omega) ?_
        | refine S.addU rfl rfl ?_
        | refine S.subU rfl rfl ?_
        | refine S.addUc rfl (by decide) ?_
        | refine S.subUc rfl (by decide) ?_
        | refine S.arith rfl rfl rfl ?_
        | refine R.pickT rfl rfl ?_
        | refine R.pickF rfl rfl ?_
        | refine R.len rfl ?_
        | refine R.lenA rfl ?_
        | refine R.lenStr rfl ?_
        | refine S.convIU rfl (by omega) ?_
        | refine S.convUI rfl (by omega) ?_
        | refine R.convInt rfl ?_
        | refine R.not rfl ?_
        | refine R.eqPtrNil rfl rfl ?_
        | refine R.extract rfl rfl ?_
        | refine R.field rfl rfl ?_
        | refine R.alloc rfl (fun b hb => ?_)
        | refine R.box rfl rfl rfl (fun b hb => ?_)
        | refine R.build rfl rfl ?_
        | refine R.buildSl rfl rfl rfl (by decide) ?_
        | refine R.toStr rfl ?_
        | refine R.convStr rfl ?_
        | refine R.minmax rfl ?_
        | refine R.makeFunc rfl rfl ?_
        | (first | refine S.lss rfl rfl (fun hlt => ?_) (fun hlt => by exfalso; omega) | refine S.lss rfl rfl (fun hlt => by exfalso; omega) (fun hlt => ?_) | refine S.lss rfl rfl (fun hlt => ?_) (fun hlt => ?_))
        | (first | refine S.gtr rfl rfl (fun hlt => ?_) (fun hlt => by exfalso; omega) | refine S.gtr rfl rfl (fun hlt => by exfalso; omega) (fun hlt => ?_) | refine S.gtr rfl rfl (fun hlt => ?_) (fun hlt => ?_))
        | (first | refine S.leq rfl rfl (fun hlt => ?_) (fun hlt => by exfalso; omega) | refine S.leq rfl rfl (fun hlt => by exfalso; omega) (fun hlt => ?_) | refine S.leq rfl rfl (fun hlt => ?_) (fun hlt => ?_))
        | (first | refine S.geq rfl rfl (fun hlt => ?_) (fun hlt => by exfalso; omega) | refine S.geq rfl rfl (fun hlt => by exfalso; omega) (fun hlt => ?_) | refine S.geq rfl rfl (fun hlt => ?_) (fun hlt => ?_))
        | (first | refine S.eqInt rfl rfl (fun hlt => ?_) (fun hlt => by exfalso; omega) | refine S.eqInt rfl rfl (fun hlt => by exfalso; omega) (fun hlt => ?_) | refine S.eqInt rfl rfl (fun hlt => ?_) (fun hlt => ?_)))
      | (refine S.op0 rfl ?_; first | refine S.storeS rfl rfl rfl (by rfl) rfl (by first | decide | exact Nat.le_refl _ | exact Nat.le_of_ble_eq_true rfl) ?_ | refine S.store rfl rfl (by (repeat' (first | assumption | exact AHeap.set_same _ _ _ | refine AHeap.get_fresh (by assumption) ?_ | refine AHeap.so ?_ ?_ | exact AHeap.n1 (by assumption) | exact AHeap.n2 (by assumption) | exact AHeap.ne_of (by assumption) (by assumption) | exact AHeap.n4 (by assumption) (by assumption) | exact AHeap.n5 (by assumption) | exact AHeap.n6 (by assumption) | exact AHeap.n7 (by assumption) (by assumption) | exact AHeap.n8 (by assumption) (by assumption))); first | done | fail) rfl rfl rfl (by rfl) rfl ?_)
      | refine S.skip rfl ?_
      | refine S.skip0 rfl ?_
      | refine S.seq ?_
      | refine S.region ?_
      | refine S.regionT ?_
      | refine S.tstep ?_
      | refine S.talt ?_ ?_
      | exact S.tstop
      | refine S.tdone ?_
      | refine S.condT rfl ?_
      | refine S.condF rfl ?_
      | refine RRun.skip ?_
      | refine RRun.block ?_
      | refine RRun.inBlock ?_
      | refine RRun.exit rfl ?_)
    rw [hset, show ((j : Int) + 1) = ((j + 1 : Nat) : Int) by omega]
    refine S.keep [11, 10, 9, 2, 3] rfl ?_
    refine ih (j + 1) _ (by omega) (AHeap.set_same _ _ _) ?_
    rw [AHeap.set_set]
    exact hk

def wordOf (t : List UInt8) : List UInt8 := t.takeWhile isWord

theorem word_spec (s : List UInt8) (hs : s.length ≤ 4611686018427387904) (p i : Nat) (hi : i ≤ s.length) (h : AHeap) (hp : h p = some (.box (cut s i))) :
    ACalls Try.prog 23 [ptr p] h (fun x h' => x = .ag (Tok.cells ⟨1, (wordOf (s.drop i)).map small, 0, 0⟩) ∧ h' = h.set p (.box (cut s (i + (wordOf (s.drop i)).length)))) := by
  obtain ⟨c, hc1, hc2⟩ := res23
  refine ACalls.weak (ACalls.enter Try.func23 hc1 Try.ntmps23 hc2 (Nat.le_of_ble_eq_true rfl) rfl ?_)
  have hlen : (wordOf (s.drop i)).length ≤ s.length - i := by
    have := (List.takeWhile_prefix (l := s.drop i) isWord).length_le
    simp at this; exact this
  repeat' (first
    | refine S.nilK ?_
    | (refine S.op rfl ?_; first
      | refine callS rfl rfl (run_spec tells_word s hs p i hi _ (by (repeat' (first | assumption | exact AHeap.set_same _ _ _ | refine AHeap.get_fresh (by assumption) ?_ | refine AHeap.so ?_ ?_ | exact AHeap.n1 (by assumption) | exact AHeap.n2 (by assumption) | exact AHeap.ne_of (by assumption) (by assumption) | exact AHeap.n4 (by assumption) (by assumption) | exact AHeap.n5 (by assumption) | exact AHeap.n6 (by assumption) | exact AHeap.n7 (by assumption) (by assumption) | exact AHeap.n8 (by assumption) (by assumption))); first | done | fail)) ?_
      | refine R.toBytesO (l := wordOf (s.drop i)) rfl rfl (fun r cap hr hcap => ?_)
      | refine R.mv rfl ?_
      | refine R.fieldAddr rfl ?_
      | refine R.fieldAddrR rfl ?_
      | refine R.nilCheck rfl ?_
      | refine R.nilCheckR rfl ?_
      | refine R.loadR rfl rfl ?_
      | refine R.load (by decide) rfl (by (repeat' (first | assumption | exact AHeap.set_same _ _ _ | refine AHeap.get_fresh (by assumption) ?_ | refine AHeap.so ?_ ?_ | exact AHeap.n1 (by assumption) | exact AHeap.n2 (by assumption) | exact AHeap.ne_of (by assumption) (by assumption) | exact AHeap.n4 (by assumption) (by assumption) | exact AHeap.n5 (by assumption) | exact AHeap.n6 (by assumption) | exact AHeap.n7 (by assumption) (by assumption) | exact AHeap.n8 (by assumption) (by assumption))); first | done | fail) rfl ?_
      | refine S.addI rfl rfl (by omega) ?_
      | refine S.subI rfl rfl (by omega) ?_
      | refine S.addU rfl rfl ?_
      | refine S.subU rfl rfl ?_
      | refine S.addUc rfl (by decide) ?_
      | refine S.subUc rfl (by decide) ?_
      | refine S.arith rfl rfl rfl ?_
      | refine R.pickT rfl rfl ?_
      | refine R.pickF rfl rfl ?_
      | refine R.len rfl ?_
      | refine R.lenA rfl ?_
      | refine R.lenStr rfl ?_
      | refine S.convIU rfl (by omega) ?_
      | refine S.convUI rfl (by omega) ?_
      | refine R.convInt rfl ?_
      | refine R.not rfl ?_
      | refine R.eqPtrNil rfl rfl ?_
      | refine R.extract rfl rfl ?_
      | refine R.field rfl rfl ?_
      | refine R.alloc rfl (fun b hb => ?_)
      | refine R.box rfl rfl rfl (fun b hb => ?_)
      | refine R.build rfl rfl ?_
      | refine R.buildSl rfl rfl rfl (by decide) ?_
      | refine R.toStr rfl ?_
      | refine R.convStr rfl ?_
      | refine R.minmax rfl ?_
      | refine R.makeFunc rfl rfl ?_
      | (first | refine S.lss rfl rfl (fun hlt => ?_) (fun hlt => by exfalso; omega) | refine S.lss rfl rfl (fun hlt => by exfalso; omega) (fun hlt => ?_) | refine S.lss rfl rfl (fun hlt => ?_) (fun hlt => ?_))
      | (first | refine S.gtr rfl rfl (fun hlt => ?_) (fun hlt => by exfalso; omega) | refine S.gtr rfl rfl (fun hlt => by exfalso; omega) (fun hlt => ?_) | refine S.gtr rfl rfl (fun hlt => ?_) (fun hlt => ?_))
      | (first | refine S.leq rfl rfl (fun hlt => ?_) (fun hlt => by exfalso; omega) | refine S.leq rfl rfl (fun hlt => by exfalso; omega) (fun hlt => ?_) | refine S.leq rfl rfl (fun hlt => ?_) (fun hlt => ?_))
      | (first | refine S.geq rfl rfl (fun hlt => ?_) (fun hlt => by exfalso; omega) | refine S.geq rfl rfl (fun hlt => by exfalso; omega) (fun hlt => ?_) | refine S.geq rfl rfl (fun hlt => ?_) (fun hlt => ?_))
      | (first | refine S.eqInt rfl rfl (fun hlt => ?_) (fun hlt => by exfalso; omega) | refine S.eqInt rfl rfl (fun hlt => by exfalso; omega) (fun hlt => ?_) | refine S.eqInt rfl rfl (fun hlt => ?_) (fun hlt => ?_)))
    | (refine S.op0 rfl ?_; first | refine S.storeS rfl rfl rfl (by rfl) rfl (by first | decide | exact Nat.le_refl _ | exact Nat.le_of_ble_eq_true rfl) ?_ | refine S.store rfl rfl (by (repeat' (first | assumption | exact AHeap.set_same _ _ _ | refine AHeap.get_fresh (by assumption) ?_ | refine AHeap.so ?_ ?_ | exact AHeap.n1 (by assumption) | exact AHeap.n2 (by assumption) | exact AHeap.ne_of (by assumption) (by assumption) | exact AHeap.n4 (by assumption) (by assumption) | exact AHeap.n5 (by assumption) | exact AHeap.n6 (by assumption) | exact AHeap.n7 (by assumption) (by assumption) | exact AHeap.n8 (by assumption) (by assumption))); first | done | fail) rfl rfl rfl (by rfl) rfl ?_)
    | refine S.skip rfl ?_
    | refine S.skip0 rfl ?_
    | refine S.seq ?_
    | refine S.region ?_
    | refine S.regionT ?_
    | refine S.tstep ?_
    | refine S.talt ?_ ?_
    | exact S.tstop
    | refine S.tdone ?_
    | refine S.condT rfl ?_
    | refine S.condF rfl ?_
    | refine RRun.skip ?_
    | refine RRun.block ?_
    | refine RRun.inBlock ?_
    | refine RRun.exit rfl ?_)
  refine RRun.loopIn (S.keep [11, 10, 9, 2, 3] rfl ?_)
  refine word_loop (wordOf (s.drop i)) (by omega) r cap b _ _ _ (wordOf (s.drop i)).length 0 _ (by omega) (AHeap.set_same _ _ _) ?_
  rw [AHeap.set_set]
  have hr1 := AHeap.set_same ((h.set b (.box [i64 0, str [], i64 0, i64 0])).set p (.box (cut s (i + (wordOf (s.drop i)).length)))) r (.row ((wordOf (s.drop i)).map (fun c => u8 (small c)) ++ List.replicate (cap - (wordOf (s.drop i)).length) .any))
  repeat' (first
    | refine S.nilK ?_
    | (refine S.op rfl ?_; first
      | refine R.toStrRow (l := (wordOf (s.drop i)).map small) (by decide) rfl hr1 (by simp) (by simp) ?_
      | refine R.mv rfl ?_
      | refine R.fieldAddr rfl ?_
      | refine R.fieldAddrR rfl ?_
      | refine R.nilCheck rfl ?_
      | refine R.nilCheckR rfl ?_
      | refine R.loadR rfl rfl ?_
      | refine R.load (by decide) rfl (by (repeat' (first | assumption | exact AHeap.set_same _ _ _ | refine AHeap.get_fresh (by assumption) ?_ | refine AHeap.so ?_ ?_ | exact AHeap.n1 (by assumption) | exact AHeap.n2 (by assumption) | exact AHeap.ne_of (by assumption) (by assumption) | exact AHeap.n4 (by assumption) (by assumption) | exact AHeap.n5 (by assumption) | exact AHeap.n6 (by assumption) | exact AHeap.n7 (by assumption) (by assumption) | exact AHeap.n8 (by assumption) (by assumption))); first | done | fail) rfl ?_
      | refine S.addI rfl rfl (by omega) ?_
      | refine S.subI rfl rfl (by omega) ?_
      | refine S.addU rfl rfl ?_
      | refine S.subU rfl rfl ?_
      | refine S.addUc rfl (by decide) ?_
      | refine S.subUc rfl (by decide) ?_
      | refine S.arith rfl rfl rfl ?_
      | refine R.pickT rfl rfl ?_
      | refine R.pickF rfl rfl ?_
      | refine R.len rfl ?_
      | refine R.lenA rfl ?_
      | refine R.lenStr rfl ?_
      | refine S.convIU rfl (by omega) ?_
      | refine S.convUI rfl (by omega) ?_
      | refine R.convInt rfl ?_
      | refine R.not rfl ?_
      | refine R.eqPtrNil rfl rfl ?_
      | refine R.extract rfl rfl ?_
      | refine R.field rfl rfl ?_
      | refine R.alloc rfl (fun b hb => ?_)
      | refine R.box rfl rfl rfl (fun b hb => ?_)
      | refine R.build rfl rfl ?_
      | refine R.buildSl rfl rfl rfl (by decide) ?_
      | refine R.toStr rfl ?_
      | refine R.convStr rfl ?_
      | refine R.minmax rfl ?_
      | refine R.makeFunc rfl rfl ?_
      | (first | refine S.lss rfl rfl (fun hlt => ?_) (fun hlt => by exfalso; omega) | refine S.lss rfl rfl (fun hlt => by exfalso; omega) (fun hlt => ?_) | refine S.lss rfl rfl (fun hlt => ?_) (fun hlt => ?_))
      | (first | refine S.gtr rfl rfl (fun hlt => ?_) (fun hlt => by exfalso; omega) | refine S.gtr rfl rfl (fun hlt => by exfalso; omega) (fun hlt => ?_) | refine S.gtr rfl rfl (fun hlt => ?_) (fun hlt => ?_))
      | (first | refine S.leq rfl rfl (fun hlt => ?_) (fun hlt => by exfalso; omega) | refine S.leq rfl rfl (fun hlt => by exfalso; omega) (fun hlt => ?_) | refine S.leq rfl rfl (fun hlt => ?_) (fun hlt => ?_))
      | (first | refine S.geq rfl rfl (fun hlt => ?_) (fun hlt => by exfalso; omega) | refine S.geq rfl rfl (fun hlt => by exfalso; omega) (fun hlt => ?_) | refine S.geq rfl rfl (fun hlt => ?_) (fun hlt => ?_))
      | (first | refine S.eqInt rfl rfl (fun hlt => ?_) (fun hlt => by exfalso; omega) | refine S.eqInt rfl rfl (fun hlt => by exfalso; omega) (fun hlt => ?_) | refine S.eqInt rfl rfl (fun hlt => ?_) (fun hlt => ?_)))
    | (refine S.op0 rfl ?_; first | refine S.storeS rfl rfl rfl (by rfl) rfl (by first | decide | exact Nat.le_refl _ | exact Nat.le_of_ble_eq_true rfl) ?_ | refine S.store rfl rfl (by (repeat' (first | assumption | exact AHeap.set_same _ _ _ | refine AHeap.get_fresh (by assumption) ?_ | refine AHeap.so ?_ ?_ | exact AHeap.n1 (by assumption) | exact AHeap.n2 (by assumption) | exact AHeap.ne_of (by assumption) (by assumption) | exact AHeap.n4 (by assumption) (by assumption) | exact AHeap.n5 (by assumption) | exact AHeap.n6 (by assumption) | exact AHeap.n7 (by assumption) (by assumption) | exact AHeap.n8 (by assumption) (by assumption))); first | done | fail) rfl rfl rfl (by rfl) rfl ?_)
    | refine S.skip rfl ?_
    | refine S.skip0 rfl ?_
    | refine S.seq ?_
    | refine S.region ?_
    | refine S.regionT ?_
    | refine S.tstep ?_
    | refine S.talt ?_ ?_
    | exact S.tstop
    | refine S.tdone ?_
    | refine S.condT rfl ?_
    | refine S.condF rfl ?_
    | refine RRun.skip ?_
    | refine RRun.block ?_
    | refine RRun.inBlock ?_
    | refine RRun.exit rfl ?_)
  apply S.ret rr23
  case hx => repeat (first | exact ResAt.nil | apply ResAt.tmp rfl | apply ResAt.cellA rfl (by (repeat' (first | assumption | exact AHeap.set_same _ _ _ | refine AHeap.get_fresh (by assumption) ?_ | refine AHeap.so ?_ ?_ | exact AHeap.n1 (by assumption) | exact AHeap.n2 (by assumption) | exact AHeap.ne_of (by assumption) (by assumption) | exact AHeap.n4 (by assumption) (by assumption) | exact AHeap.n5 (by assumption) | exact AHeap.n6 (by assumption) | exact AHeap.n7 (by assumption) (by assumption) | exact AHeap.n8 (by assumption) (by assumption))); first | done | fail) (by rfl) | apply ResAt.cell1 rfl (by (repeat' (first | assumption | exact AHeap.set_same _ _ _ | refine AHeap.get_fresh (by assumption) ?_ | refine AHeap.so ?_ ?_ | exact AHeap.n1 (by assumption) | exact AHeap.n2 (by assumption) | exact AHeap.ne_of (by assumption) (by assumption) | exact AHeap.n4 (by assumption) (by assumption) | exact AHeap.n5 (by assumption) | exact AHeap.n6 (by assumption) | exact AHeap.n7 (by assumption) (by assumption) | exact AHeap.n8 (by assumption) (by assumption))); first | done | fail) (by rfl))
  exact ⟨_, _, .refl _, (by repeat (first | exact AHeap.le.refl _ | refine AHeap.le.set ?_ _ (by (repeat' (first | assumption | exact AHeap.z1 (by assumption) | exact AHeap.z2 (by assumption) | exact AHeap.z3 (by assumption) | refine AHeap.so ?_ ?_ | exact AHeap.n1 (by assumption) | exact AHeap.n2 (by assumption) | exact AHeap.ne_of (by assumption) (by assumption) | exact AHeap.n4 (by assumption) (by assumption) | exact AHeap.n5 (by assumption) | exact AHeap.n6 (by assumption) | exact AHeap.n7 (by assumption) (by assumption) | exact AHeap.n8 (by assumption) (by assumption))); first | done | fail) | refine AHeap.le.both ?_ _ _)), rfl, rfl⟩

end Go.Proofs.Ytcjcmegkfplnkaa
