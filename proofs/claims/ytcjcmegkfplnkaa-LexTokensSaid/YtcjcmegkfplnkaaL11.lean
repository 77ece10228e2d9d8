import Derived.Test.YtcjcmegkfplnkaaL10
set_option linter.unusedVariables false
set_option linter.unusedSimpArgs false
set_option linter.unusedSectionVars false
namespace Go.Proofs.Ytcjcmegkfplnkaa
open Go.Av


theorem over4 {z xs : List AV} (hz : z.length = 4) (hx : xs.length = 4) : over z 0 xs = xs := by
  rw [over, hx, List.take_zero, List.nil_append, List.drop_of_length_le (by omega), List.append_nil]

theorem cut1 {s : List UInt8} {j : Nat} {c : UInt8} (hc : s[j]? = some c) : (s.drop ((j : Nat) : Int).toNat).take ((((j : Int) + 1).toNat) - ((j : Nat) : Int).toNat) = [c] := by
  obtain ⟨hlt, hc⟩ := List.getElem?_eq_some_iff.1 hc
  rw [show ((j : Int) + 1).toNat - ((j : Nat) : Int).toNat = 1 by omega, show ((j : Nat) : Int).toNat = j by omega, List.drop_eq_getElem_cons hlt, hc]; rfl
theorem cut2 {s : List UInt8} {j : Nat} {c : UInt8} (hc : s[j + 1]? = some c) : (s.drop (((j : Int) + 1).toNat)).take ((((j : Int) + 1 + 1).toNat) - ((j : Int) + 1).toNat) = [c] := by
  obtain ⟨hlt, hc⟩ := List.getElem?_eq_some_iff.1 hc
  rw [show ((j : Int) + 1 + 1).toNat - ((j : Int) + 1).toNat = 1 by omega, show ((j : Int) + 1).toNat = j + 1 by omega, List.drop_eq_getElem_cons hlt, hc]; rfl

section
variable (s : List UInt8) (hs : s.length ≤ 2000000) (b4 b i j : Nat) (hbb : b4 ≠ b) (g : AHeap) (acc : List UInt8) (hacc : acc.length ≤ j) (hb : g b = some (.box [i64 3, str acc, i64 0, i64 i])) (z : List AV) (hz : z.length = 4) (hb4 : g b4 = some (.box z)) (k : List RT) (Q : AV → AHeap → Prop)
include hs hbb hacc hb hz hb4

theorem qq_ne (x : UInt8) (hg1 : s[j]? = some x) (hx : ¬ x = 39)
    (hk : RRun Try.prog Try.f13 186 (.inLoop r13l2 :: .inBlock 5 :: k) (Env.get [(0, str s), (1, i64 i), (4, ptr b4), (7, ptr b), (8, i64 (j + 1 : Nat))]) (g.set b (.box (Tok.cells ⟨3, acc ++ [x], 0, i⟩))) Q) :
    RRun Try.prog Try.f13 186 (.inLoop r13l2 :: .inBlock 5 :: k) (Env.get [(0, str s), (1, i64 i), (4, ptr b4), (7, ptr b), (8, i64 j)]) g Q := by
  have hlt := (List.getElem?_eq_some_iff.1 hg1).1
  have hx' : ¬ ((x.toNat : Int) = 39) := fun e => hx (UInt8.toNat_inj.1 (by have : (39 : UInt8).toNat = 39 := rfl; omega))
  have hsl := cut1 hg1
  refine RRun.inLoop ?_
  repeat' (first
    | refine S.nilK ?_
    | (refine S.op rfl ?_; first
      | refine S.lenS rfl ?_
      | refine S.indexS rfl rfl (by omega) (show s[((j : Nat) : Int).toNat]? = some x from hg1) ?_
      | refine S.sliceS rfl rfl rfl (by omega) (by omega) (by omega) ?_
      | refine S.concat rfl rfl (by rw [hsl]; simp; omega) ?_
      | refine R.mv rfl ?_
      | refine R.fieldAddr rfl ?_
      | refine R.fieldAddrR rfl ?_
      | refine R.nilCheck rfl ?_
      | refine R.nilCheckR rfl ?_
      | refine R.loadR rfl rfl ?_
      | refine R.load (by decide) rfl (by (repeat' (first | assumption | exact AHeap.set_same _ _ _ | refine AHeap.get_fresh (by assumption) ?_ | refine AHeap.so ?_ ?_ | exact AHeap.n1 (by assumption) | exact AHeap.n2 (by assumption) | exact AHeap.ne_of (by assumption) (by assumption) | exact AHeap.n4 (by assumption) (by assumption) | exact AHeap.n5 (by assumption) | exact AHeap.n6 (by assumption) | exact AHeap.n7 (by assumption) (by assumption) | exact AHeap.n8 (by assumption) (by assumption))); first | done | fail) rfl ?_
      | refine S.addI rfl rfl (by omega) ?_
      | refine S.subI rfl rfl (by omega) ?_
      | refine S.addU rfl rfl ?_
      | refine S.subU rfl rfl ?_
      | refine S.addUc rfl (by decide) ?_
      | refine S.subUc rfl (by decide) ?_
      | refine S.arith rfl rfl rfl ?_
      | refine R.pickT rfl rfl ?_
      | refine R.pickF rfl rfl ?_
      | refine R.len rfl ?_
      | refine R.lenA rfl ?_
      | refine R.lenStr rfl ?_
      | refine S.convIU rfl (by omega) ?_
      | refine S.convUI rfl (by omega) ?_
      | refine R.convInt rfl ?_
      | refine R.not rfl ?_
      | refine R.eqPtrNil rfl rfl ?_
      | refine R.extract rfl rfl ?_
      | refine R.field rfl rfl ?_
      | refine R.alloc rfl (fun b hb => ?_)
      | refine R.box rfl rfl rfl (fun b hb => ?_)
      | refine R.build rfl rfl ?_
      | refine R.buildSl rfl rfl rfl (by decide) ?_
      | refine R.toStr rfl ?_
      | refine R.convStr rfl ?_
      | refine R.minmax rfl ?_
      | refine R.makeFunc rfl rfl ?_
      | (first | refine S.lss rfl rfl (fun hlt => ?_) (fun hlt => by exfalso; omega) | refine S.lss rfl rfl (fun hlt => by exfalso; omega) (fun hlt => ?_) | refine S.lss rfl rfl (fun hlt => ?_) (fun hlt => ?_))
      | (first | refine S.gtr rfl rfl (fun hlt => ?_) (fun hlt => by exfalso; omega) | refine S.gtr rfl rfl (fun hlt => by exfalso; omega) (fun hlt => ?_) | refine S.gtr rfl rfl (fun hlt => ?_) (fun hlt => ?_))
      | (first | refine S.leq rfl rfl (fun hlt => ?_) (fun hlt => by exfalso; omega) | refine S.leq rfl rfl (fun hlt => by exfalso; omega) (fun hlt => ?_) | refine S.leq rfl rfl (fun hlt => ?_) (fun hlt => ?_))
      | (first | refine S.geq rfl rfl (fun hlt => ?_) (fun hlt => by exfalso; omega) | refine S.geq rfl rfl (fun hlt => by exfalso; omega) (fun hlt => ?_) | refine S.geq rfl rfl (fun hlt => ?_) (fun hlt => ?_))
      | (first | refine S.eqInt rfl rfl (fun hlt => ?_) (fun hlt => by exfalso; omega) | refine S.eqInt rfl rfl (fun hlt => by exfalso; omega) (fun hlt => ?_) | refine S.eqInt rfl rfl (fun hlt => ?_) (fun hlt => ?_)))
    | (refine S.op0 rfl ?_; first | refine S.storeS rfl rfl rfl (by rfl) rfl (by first | decide | exact Nat.le_refl _ | exact Nat.le_of_ble_eq_true rfl) ?_ | refine S.store rfl rfl (by (repeat' (first | assumption | exact AHeap.set_same _ _ _ | refine AHeap.get_fresh (by assumption) ?_ | refine AHeap.so ?_ ?_ | exact AHeap.n1 (by assumption) | exact AHeap.n2 (by assumption) | exact AHeap.ne_of (by assumption) (by assumption) | exact AHeap.n4 (by assumption) (by assumption) | exact AHeap.n5 (by assumption) | exact AHeap.n6 (by assumption) | exact AHeap.n7 (by assumption) (by assumption) | exact AHeap.n8 (by assumption) (by assumption))); first | done | fail) rfl rfl rfl (by rfl) rfl ?_)
    | refine S.skip rfl ?_
    | refine S.skip0 rfl ?_
    | refine S.seq ?_
    | refine S.region ?_
    | refine S.regionT ?_
    | refine S.tstep ?_
    | refine S.talt ?_ ?_
    | exact S.tstop
    | refine S.tdone ?_
    | refine S.condT rfl ?_
    | refine S.condF rfl ?_
    | refine RRun.skip ?_
    | refine RRun.block ?_
    | refine RRun.inBlock ?_
    | refine RRun.exit rfl ?_)
  refine S.keep [0, 1, 4, 7, 8] rfl ?_
  rw [show ((j + 1 : Nat) : Int) = (j : Int) + 1 by omega] at hk
  rw [hsl]
  exact hk

theorem qq_two (hg1 : s[j]? = some 39) (hg2 : s[j + 1]? = some 39)
    (hk : RRun Try.prog Try.f13 186 (.inLoop r13l2 :: .inBlock 5 :: k) (Env.get [(0, str s), (1, i64 i), (4, ptr b4), (7, ptr b), (8, i64 (j + 2 : Nat))]) (g.set b (.box (Tok.cells ⟨3, acc ++ [39], 0, i⟩))) Q) :
    RRun Try.prog Try.f13 186 (.inLoop r13l2 :: .inBlock 5 :: k) (Env.get [(0, str s), (1, i64 i), (4, ptr b4), (7, ptr b), (8, i64 j)]) g Q := by
  have hlt := (List.getElem?_eq_some_iff.1 hg1).1
  have hlt2 := (List.getElem?_eq_some_iff.1 hg2).1
  have hx39 : ((39 : UInt8).toNat : Int) = 39 := rfl
  have hg2' : s[((j : Int) + 1).toNat]? = some 39 := by rw [show ((j : Int) + 1).toNat = j + 1 by omega]; exact hg2
  have hsl := cut2 hg2
  refine RRun.inLoop ?_
  repeat' (first
    | refine S.nilK ?_
    | (refine S.op rfl ?_; first
      | refine S.lenS rfl ?_
      | refine S.indexS rfl rfl (by omega) (show s[((j : Nat) : Int).toNat]? = some 39 from hg1) ?_
      | refine S.indexS rfl rfl (by omega) hg2' ?_
      | refine S.sliceS rfl rfl rfl (by omega) (by omega) (by omega) ?_
      | refine S.concat rfl rfl (by rw [hsl]; simp; omega) ?_
      | refine R.mv rfl ?_
      | refine R.fieldAddr rfl ?_
      | refine R.fieldAddrR rfl ?_
      | refine R.nilCheck rfl ?_
      | refine R.nilCheckR rfl ?_
      | refine R.loadR rfl rfl ?_
      | refine R.load (by decide) rfl (by (repeat' (first | assumption | exact AHeap.set_same _ _ _ | refine AHeap.get_fresh (by assumption) ?_ | refine AHeap.so ?_ ?_ | exact AHeap.n1 (by assumption) | exact AHeap.n2 (by assumption) | exact AHeap.ne_of (by assumption) (by assumption) | exact AHeap.n4 (by assumption) (by assumption) | exact AHeap.n5 (by assumption) | exact AHeap.n6 (by assumption) | exact AHeap.n7 (by assumption) (by assumption) | exact AHeap.n8 (by assumption) (by assumption))); first | done | fail) rfl ?_
      | refine S.addI rfl rfl (by omega) ?_
      | refine S.subI rfl rfl (by omega) ?_
      | refine S.addU rfl rfl ?_
      | refine S.subU rfl rfl ?_
      | refine S.addUc rfl (by decide) ?_
      | refine S.subUc rfl (by decide) ?_
      | refine S.arith rfl rfl rfl ?_
      | refine R.pickT rfl rfl ?_
      | refine R.pickF rfl rfl ?_
      | refine R.len rfl ?_
      | refine R.lenA rfl ?_
      | refine R.lenStr rfl ?_
      | refine S.convIU rfl (by omega) ?_
      | refine S.convUI rfl (by omega) ?_
      | refine R.convInt rfl ?_
      | refine R.not rfl ?_
      | refine R.eqPtrNil rfl rfl ?_
      | refine R.extract rfl rfl ?_
      | refine R.field rfl rfl ?_
      | refine R.alloc rfl (fun b hb => ?_)
      | refine R.box rfl rfl rfl (fun b hb => ?_)
      | refine R.build rfl rfl ?_
      | refine R.buildSl rfl rfl rfl (by decide) ?_
      | refine R.toStr rfl ?_
      | refine R.convStr rfl ?_
      | refine R.minmax rfl ?_
      | refine R.makeFunc rfl rfl ?_
      | (first | refine S.lss rfl rfl (fun hlt => ?_) (fun hlt => by exfalso; omega) | refine S.lss rfl rfl (fun hlt => by exfalso; omega) (fun hlt => ?_) | refine S.lss rfl rfl (fun hlt => ?_) (fun hlt => ?_))
      | (first | refine S.gtr rfl rfl (fun hlt => ?_) (fun hlt => by exfalso; omega) | refine S.gtr rfl rfl (fun hlt => by exfalso; omega) (fun hlt => ?_) | refine S.gtr rfl rfl (fun hlt => ?_) (fun hlt => ?_))
      | (first | refine S.leq rfl rfl (fun hlt => ?_) (fun hlt => by exfalso; omega) | refine S.leq rfl rfl (fun hlt => by exfalso; omega) (fun hlt => ?_) | refine S.leq rfl rfl (fun hlt => ?_) (fun hlt => ?_))
      | (first | refine S.geq rfl rfl (fun hlt => ?_) (fun hlt => by exfalso; omega) | refine S.geq rfl rfl (fun hlt => by exfalso; omega) (fun hlt => ?_) | refine S.geq rfl rfl (fun hlt => ?_) (fun hlt => ?_))
      | (first | refine S.eqInt rfl rfl (fun hlt => ?_) (fun hlt => by exfalso; omega) | refine S.eqInt rfl rfl (fun hlt => by exfalso; omega) (fun hlt => ?_) | refine S.eqInt rfl rfl (fun hlt => ?_) (fun hlt => ?_)))
    | (refine S.op0 rfl ?_; first | refine S.storeS rfl rfl rfl (by rfl) rfl (by first | decide | exact Nat.le_refl _ | exact Nat.le_of_ble_eq_true rfl) ?_ | refine S.store rfl rfl (by (repeat' (first | assumption | exact AHeap.set_same _ _ _ | refine AHeap.get_fresh (by assumption) ?_ | refine AHeap.so ?_ ?_ | exact AHeap.n1 (by assumption) | exact AHeap.n2 (by assumption) | exact AHeap.ne_of (by assumption) (by assumption) | exact AHeap.n4 (by assumption) (by assumption) | exact AHeap.n5 (by assumption) | exact AHeap.n6 (by assumption) | exact AHeap.n7 (by assumption) (by assumption) | exact AHeap.n8 (by assumption) (by assumption))); first | done | fail) rfl rfl rfl (by rfl) rfl ?_)
    | refine S.skip rfl ?_
    | refine S.skip0 rfl ?_
    | refine S.seq ?_
    | refine S.region ?_
    | refine S.regionT ?_
    | refine S.tstep ?_
    | refine S.talt ?_ ?_
    | exact S.tstop
    | refine S.tdone ?_
    | refine S.condT rfl ?_
    | refine S.condF rfl ?_
    | refine RRun.skip ?_
    | refine RRun.block ?_
    | refine RRun.inBlock ?_
    | refine RRun.exit rfl ?_)
  refine S.keep [0, 1, 4, 7, 8] rfl ?_
  rw [show ((j + 2 : Nat) : Int) = (j : Int) + 1 + 1 by omega] at hk
  rw [hsl]
  exact hk

theorem qq_end (hg1 : s[j]? = some 39) (hend : j + 1 = s.length)
    (hk : Q (.tu [.ag (Tok.cells ⟨3, acc, 0, i⟩), i64 (j + 1 : Nat), bl (decide (acc.length ≤ 1000))]) (g.set b4 (.box (Tok.cells ⟨3, acc, 0, i⟩)))) :
    RRun Try.prog Try.f13 186 (.inLoop r13l2 :: .inBlock 5 :: k) (Env.get [(0, str s), (1, i64 i), (4, ptr b4), (7, ptr b), (8, i64 j)]) g Q := by
  have hlt := (List.getElem?_eq_some_iff.1 hg1).1
  have hx39 : ((39 : UInt8).toNat : Int) = 39 := rfl
  have hbb' := Ne.symm hbb
  obtain ⟨z0, z1, z2, z3, rfl⟩ : ∃ z0 z1 z2 z3, z = [z0, z1, z2, z3] := by
    match z, hz with
    | [z0, z1, z2, z3], _ => exact ⟨z0, z1, z2, z3, rfl⟩
  refine RRun.inLoop ?_
  rw [show ((j + 1 : Nat) : Int) = (j : Int) + 1 by omega] at hk
  repeat' (first
    | refine S.nilK ?_
    | (refine S.op rfl ?_; first
      | refine S.lenS rfl ?_
      | refine S.indexS rfl rfl (by omega) (show s[((j : Nat) : Int).toNat]? = some 39 from hg1) ?_
      | refine R.mv rfl ?_
      | refine R.fieldAddr rfl ?_
      | refine R.fieldAddrR rfl ?_
      | refine R.nilCheck rfl ?_
      | refine R.nilCheckR rfl ?_
      | refine R.loadR rfl rfl ?_
      | refine R.load (by decide) rfl (by (repeat' (first | assumption | exact AHeap.set_same _ _ _ | refine AHeap.get_fresh (by assumption) ?_ | refine AHeap.so ?_ ?_ | exact AHeap.n1 (by assumption) | exact AHeap.n2 (by assumption) | exact AHeap.ne_of (by assumption) (by assumption) | exact AHeap.n4 (by assumption) (by assumption) | exact AHeap.n5 (by assumption) | exact AHeap.n6 (by assumption) | exact AHeap.n7 (by assumption) (by assumption) | exact AHeap.n8 (by assumption) (by assumption))); first | done | fail) rfl ?_
      | refine S.addI rfl rfl (by omega) ?_
      | refine S.subI rfl rfl (by omega) ?_
      | refine S.addU rfl rfl ?_
      | refine S.subU rfl rfl ?_
      | refine S.addUc rfl (by decide) ?_
      | refine S.subUc rfl (by decide) ?_
      | refine S.arith rfl rfl rfl ?_
      | refine R.pickT rfl rfl ?_
      | refine R.pickF rfl rfl ?_
      | refine R.len rfl ?_
      | refine R.lenA rfl ?_
      | refine R.lenStr rfl ?_
      | refine S.convIU rfl (by omega) ?_
      | refine S.convUI rfl (by omega) ?_
      | refine R.convInt rfl ?_
      | refine R.not rfl ?_
      | refine R.eqPtrNil rfl rfl ?_
      | refine R.extract rfl rfl ?_
      | refine R.field rfl rfl ?_
      | refine R.alloc rfl (fun b hb => ?_)
      | refine R.box rfl rfl rfl (fun b hb => ?_)
      | refine R.build rfl rfl ?_
      | refine R.buildSl rfl rfl rfl (by decide) ?_
      | refine R.toStr rfl ?_
      | refine R.convStr rfl ?_
      | refine R.minmax rfl ?_
      | refine R.makeFunc rfl rfl ?_
      | (first | refine S.lss rfl rfl (fun hlt => ?_) (fun hlt => by exfalso; omega) | refine S.lss rfl rfl (fun hlt => by exfalso; omega) (fun hlt => ?_) | refine S.lss rfl rfl (fun hlt => ?_) (fun hlt => ?_))
      | (first | refine S.gtr rfl rfl (fun hlt => ?_) (fun hlt => by exfalso; omega) | refine S.gtr rfl rfl (fun hlt => by exfalso; omega) (fun hlt => ?_) | refine S.gtr rfl rfl (fun hlt => ?_) (fun hlt => ?_))
      | (first | refine S.leq rfl rfl (fun hlt => ?_) (fun hlt => by exfalso; omega) | refine S.leq rfl rfl (fun hlt => by exfalso; omega) (fun hlt => ?_) | refine S.leq rfl rfl (fun hlt => ?_) (fun hlt => ?_))
      | (first | refine S.geq rfl rfl (fun hlt => ?_) (fun hlt => by exfalso; omega) | refine S.geq rfl rfl (fun hlt => by exfalso; omega) (fun hlt => ?_) | refine S.geq rfl rfl (fun hlt => ?_) (fun hlt => ?_))
      | (first | refine S.eqInt rfl rfl (fun hlt => ?_) (fun hlt => by exfalso; omega) | refine S.eqInt rfl rfl (fun hlt => by exfalso; omega) (fun hlt => ?_) | refine S.eqInt rfl rfl (fun hlt => ?_) (fun hlt => ?_)))
    | (refine S.op0 rfl ?_; first | refine S.storeS rfl rfl rfl (by rfl) rfl (by first | decide | exact Nat.le_refl _ | exact Nat.le_of_ble_eq_true rfl) ?_ | refine S.store rfl rfl (by (repeat' (first | assumption | exact AHeap.set_same _ _ _ | refine AHeap.get_fresh (by assumption) ?_ | refine AHeap.so ?_ ?_ | exact AHeap.n1 (by assumption) | exact AHeap.n2 (by assumption) | exact AHeap.ne_of (by assumption) (by assumption) | exact AHeap.n4 (by assumption) (by assumption) | exact AHeap.n5 (by assumption) | exact AHeap.n6 (by assumption) | exact AHeap.n7 (by assumption) (by assumption) | exact AHeap.n8 (by assumption) (by assumption))); first | done | fail) rfl rfl rfl (by rfl) rfl ?_)
    | refine S.skip rfl ?_
    | refine S.skip0 rfl ?_
    | refine S.seq ?_
    | refine S.region ?_
    | refine S.regionT ?_
    | refine S.tstep ?_
    | refine S.talt ?_ ?_
    | exact S.tstop
    | refine S.tdone ?_
    | refine S.condT rfl ?_
    | refine S.condF rfl ?_
    | refine RRun.skip ?_
    | refine RRun.block ?_
    | refine RRun.inBlock ?_
    | refine RRun.exit rfl ?_)
  all_goals
    apply S.ret rr13
    case hx => repeat (first | exact ResAt.nil | apply ResAt.tmp rfl | apply ResAt.cellA rfl (by (repeat' (first | assumption | exact AHeap.set_same _ _ _ | refine AHeap.get_fresh (by assumption) ?_ | refine AHeap.so ?_ ?_ | exact AHeap.n1 (by assumption) | exact AHeap.n2 (by assumption) | exact AHeap.ne_of (by assumption) (by assumption) | exact AHeap.n4 (by assumption) (by assumption) | exact AHeap.n5 (by assumption) | exact AHeap.n6 (by assumption) | exact AHeap.n7 (by assumption) (by assumption) | exact AHeap.n8 (by assumption) (by assumption))); first | done | fail) (by rfl) | apply ResAt.cell1 rfl (by (repeat' (first | assumption | exact AHeap.set_same _ _ _ | refine AHeap.get_fresh (by assumption) ?_ | refine AHeap.so ?_ ?_ | exact AHeap.n1 (by assumption) | exact AHeap.n2 (by assumption) | exact AHeap.ne_of (by assumption) (by assumption) | exact AHeap.n4 (by assumption) (by assumption) | exact AHeap.n5 (by assumption) | exact AHeap.n6 (by assumption) | exact AHeap.n7 (by assumption) (by assumption) | exact AHeap.n8 (by assumption) (by assumption))); first | done | fail) (by rfl))
    first
      | (rw [decide_eq_true (by omega)] at hk; exact hk)
      | (rw [decide_eq_false (by omega)] at hk; exact hk)

theorem qq_stop (y : UInt8) (hg1 : s[j]? = some 39) (hg2 : s[j + 1]? = some y) (hy : ¬ y = 39)
    (hk : Q (.tu [.ag (Tok.cells ⟨3, acc, 0, i⟩), i64 (j + 1 : Nat), bl (decide (acc.length ≤ 1000))]) (g.set b4 (.box (Tok.cells ⟨3, acc, 0, i⟩)))) :
    RRun Try.prog Try.f13 186 (.inLoop r13l2 :: .inBlock 5 :: k) (Env.get [(0, str s), (1, i64 i), (4, ptr b4), (7, ptr b), (8, i64 j)]) g Q := by
  have hlt := (List.getElem?_eq_some_iff.1 hg1).1
  have hlt2 := (List.getElem?_eq_some_iff.1 hg2).1
  have hx39 : ((39 : UInt8).toNat : Int) = 39 := rfl
  have hy' : ¬ ((y.toNat : Int) = 39) := fun e => hy (UInt8.toNat_inj.1 (by have : (39 : UInt8).toNat = 39 := rfl; omega))
  have hg2' : s[((j : Int) + 1).toNat]? = some y := by rw [show ((j : Int) + 1).toNat = j + 1 by omega]; exact hg2
  have hbb' := Ne.symm hbb
  obtain ⟨z0, z1, z2, z3, rfl⟩ : ∃ z0 z1 z2 z3, z = [z0, z1, z2, z3] := by
    match z, hz with
    | [z0, z1, z2, z3], _ => exact ⟨z0, z1, z2, z3, rfl⟩
  refine RRun.inLoop ?_
  rw [show ((j + 1 : Nat) : Int) = (j : Int) + 1 by omega] at hk
  repeat' (first
    | refine S.nilK ?_
    | (refine S.op rfl ?_; first
      | refine S.lenS rfl ?_
      | refine S.indexS rfl rfl (by omega) (show s[((j : Nat) : Int).toNat]? = some 39 from hg1) ?_
      | refine S.indexS rfl rfl (by omega) hg2' ?_
      | refine R.mv rfl ?_
      | refine R.fieldAddr rfl ?_
      | refine R.fieldAddrR rfl ?_
      | refine R.nilCheck rfl ?_
      | refine R.nilCheckR rfl ?_
      | refine R.loadR rfl rfl ?_
      | refine R.load (by decide) rfl (by (repeat' (first | assumption | exact AHeap.set_same _ _ _ | refine AHeap.get_fresh (by assumption) ?_ | refine AHeap.so ?_ ?_ | exact AHeap.n1 (by assumption) | exact AHeap.n2 (by assumption) | exact AHeap.ne_of (by assumption) (by assumption) | exact AHeap.n4 (by assumption) (by assumption) | exact AHeap.n5 (by assumption) | exact AHeap.n6 (by assumption) | exact AHeap.n7 (by assumption) (by assumption) | exact AHeap.n8 (by assumption) (by assumption))); first | done | fail) rfl ?_
      | refine S.addI rfl rfl (by omega) ?_
      | refine S.subI rfl rfl (by omega) ?_
      | refine S.addU rfl rfl ?_
      | refine S.subU rfl rfl ?_
      | refine S.addUc rfl (by decide) ?_
      | refine S.subUc rfl (by decide) ?_
      | refine S.arith rfl rfl rfl ?_
      | refine R.pickT rfl rfl ?_
      | refine R.pickF rfl rfl ?_
      | refine R.len rfl ?_
      | refine R.lenA rfl ?_
      | refine R.lenStr rfl ?_
      | refine S.convIU rfl (by omega) ?_
      | refine S.convUI rfl (by omega) ?_
      | refine R.convInt rfl ?_
      | refine R.not rfl ?_
      | refine R.eqPtrNil rfl rfl ?_
      | refine R.extract rfl rfl ?_
      | refine R.field rfl rfl ?_
      | refine R.alloc rfl (fun b hb => ?_)
      | refine R.box rfl rfl rfl (fun b hb => ?_)
      | refine R.build rfl rfl ?_
      | refine R.buildSl rfl rfl rfl (by decide) ?_
      | refine R.toStr rfl ?_
      | refine R.convStr rfl ?_
      | refine R.minmax rfl ?_
      | refine R.makeFunc rfl rfl ?_
      | (first | refine S.lss rfl rfl (fun hlt => ?_) (fun hlt => by exfalso; omega) | refine S.lss rfl rfl (fun hlt => by exfalso; omega) (fun hlt => ?_) | refine S.lss rfl rfl (fun hlt => ?_) (fun hlt => ?_))
      | (first | refine S.gtr rfl rfl (fun hlt => ?_) (fun hlt => by exfalso; omega) | refine S.gtr rfl rfl (fun hlt => by exfalso; omega) (fun hlt => ?_) | refine S.gtr rfl rfl (fun hlt => ?_) (fun hlt => ?_))
      | (first | refine S.leq rfl rfl (fun hlt => ?_) (fun hlt => by exfalso; omega) | refine S.leq rfl rfl (fun hlt => by exfalso; omega) (fun hlt => ?_) | refine S.leq rfl rfl (fun hlt => ?_) (fun hlt => ?_))
      | (first | refine S.geq rfl rfl (fun hlt => ?_) (fun hlt => by exfalso; omega) | refine S.geq rfl rfl (fun hlt => by exfalso; omega) (fun hlt => ?_) | refine S.geq rfl rfl (fun hlt => ?_) (fun hlt => ?_))
      | (first | refine S.eqInt rfl rfl (fun hlt => ?_) (fun hlt => by exfalso; omega) | refine S.eqInt rfl rfl (fun hlt => by exfalso; omega) (fun hlt => ?_) | refine S.eqInt rfl rfl (fun hlt => ?_) (fun hlt => ?_)))
    | (refine S.op0 rfl ?_; first | refine S.storeS rfl rfl rfl (by rfl) rfl (by first | decide | exact Nat.le_refl _ | exact Nat.le_of_ble_eq_true rfl) ?_ | refine S.store rfl rfl (by (repeat' (first | assumption | exact AHeap.set_same _ _ _ | refine AHeap.get_fresh (by assumption) ?_ | refine AHeap.so ?_ ?_ | exact AHeap.n1 (by assumption) | exact AHeap.n2 (by assumption) | exact AHeap.ne_of (by assumption) (by assumption) | exact AHeap.n4 (by assumption) (by assumption) | exact AHeap.n5 (by assumption) | exact AHeap.n6 (by assumption) | exact AHeap.n7 (by assumption) (by assumption) | exact AHeap.n8 (by assumption) (by assumption))); first | done | fail) rfl rfl rfl (by rfl) rfl ?_)
    | refine S.skip rfl ?_
    | refine S.skip0 rfl ?_
    | refine S.seq ?_
    | refine S.region ?_
    | refine S.regionT ?_
    | refine S.tstep ?_
    | refine S.talt ?_ ?_
    | exact S.tstop
    | refine S.tdone ?_
    | refine S.condT rfl ?_
    | refine S.condF rfl ?_
    | refine RRun.skip ?_
    | refine RRun.block ?_
    | refine RRun.inBlock ?_
    | refine RRun.exit rfl ?_)
  all_goals
    apply S.ret rr13
    case hx => repeat (first | exact ResAt.nil | apply ResAt.tmp rfl | apply ResAt.cellA rfl (by (repeat' (first | assumption | exact AHeap.set_same _ _ _ | refine AHeap.get_fresh (by assumption) ?_ | refine AHeap.so ?_ ?_ | exact AHeap.n1 (by assumption) | exact AHeap.n2 (by assumption) | exact AHeap.ne_of (by assumption) (by assumption) | exact AHeap.n4 (by assumption) (by assumption) | exact AHeap.n5 (by assumption) | exact AHeap.n6 (by assumption) | exact AHeap.n7 (by assumption) (by assumption) | exact AHeap.n8 (by assumption) (by assumption))); first | done | fail) (by rfl) | apply ResAt.cell1 rfl (by (repeat' (first | assumption | exact AHeap.set_same _ _ _ | refine AHeap.get_fresh (by assumption) ?_ | refine AHeap.so ?_ ?_ | exact AHeap.n1 (by assumption) | exact AHeap.n2 (by assumption) | exact AHeap.ne_of (by assumption) (by assumption) | exact AHeap.n4 (by assumption) (by assumption) | exact AHeap.n5 (by assumption) | exact AHeap.n6 (by assumption) | exact AHeap.n7 (by assumption) (by assumption) | exact AHeap.n8 (by assumption) (by assumption))); first | done | fail) (by rfl))
    first
      | (rw [decide_eq_true (by omega)] at hk; exact hk)
      | (rw [decide_eq_false (by omega)] at hk; exact hk)
end

end Go.Proofs.Ytcjcmegkfplnkaa
