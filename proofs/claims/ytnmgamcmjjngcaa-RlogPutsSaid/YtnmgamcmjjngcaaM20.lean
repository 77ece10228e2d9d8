import Derived.Test.YtnmgamcmjjngcaaM19
import Derived.Test.YtnmgamcmjjngcaaY4
import Derived.Test.YtnmgamcmjjngcaaT5b
import Derived.Test.YtnmgamcmjjngcaaU11
set_option linter.unusedVariables false
set_option linter.unusedSimpArgs false
namespace Go.Proofs.Ytnmgamcmjjngcaa
open Go.Av

/-! ### Trees of orders: what is known may be forgotten -/
theorem aev_le {E E' : AEnv} (hE : ∀ t x, E' t = some x → E t = some x) {x : Operand} {av : AV} (h : aev E' x = some av) : aev E x = some av := by
  cases x <;> first | exact h | exact hE _ av h
theorem AOp.le {P : Program} {o : Oper} {E E' : AEnv} {h : AHeap} {K : AV → AHeap → Prop} (hE : ∀ t x, E' t = some x → E t = some x) (ha : AOp P o E' h K) : AOp P o E h K :=
  fun ro a w h1 h2 => ha ro a w (fun x hx av hav => h1 x hx av (aev_le hE hav)) h2
theorem ROpS.le {P : Program} {c : Cls} {r : ROp} {E E' : AEnv} {h : AHeap} {K K' : AV → AHeap → Prop} (hE : ∀ t x, E' t = some x → E t = some x) (ha : ROpS P c r E' h K) (hk : ∀ x h, K x h → K' x h) : ROpS P c r E h K' := by
  intro o ho
  have := ha o ho
  cases c with
  | act => exact (AOp.le hE this).mono hk
  | pure => obtain ⟨x, h1, h2⟩ := this; exact ⟨x, fun h' => AOp.le hE (h1 h'), hk _ _ h2⟩
  | read => obtain ⟨x, h1, h2⟩ := this; exact ⟨x, AOp.le hE h1, hk _ _ h2⟩
theorem put_le {E E' : AEnv} (hE : ∀ t x, E' t = some x → E t = some x) (d : Option Tmp) (y : AV) : ∀ t x, E'.put d y t = some x → E.put d y t = some x := by
  intro t x hx
  cases d with
  | none => exact hE t x hx
  | some d =>
    simp only [AEnv.put] at hx ⊢
    split at hx
    · rename_i h; rw [if_pos h]; exact hx
    · rename_i h; rw [if_neg h]; exact hE t x hx
theorem RChain1.le {P : Program} {i : RItem} {E E' : AEnv} {h : AHeap} {K K' : AEnv → AHeap → Prop} (hE : ∀ t x, E' t = some x → E t = some x) (hc : RChain P [i] E' h K) (hk : ∀ E1 E2 h, (∀ t x, E2 t = some x → E1 t = some x) → K E2 h → K' E1 h) : RChain P [i] E h K' := by
  have hw : ∀ b, i.want E' = some b → i.want E = some b := fun b hb => by
    unfold RItem.want at hb ⊢
    cases hg : i.guard with
    | none => rw [hg] at hb; exact hb
    | some tb =>
      obtain ⟨t, b'⟩ := tb
      rw [hg] at hb
      simp only at hb ⊢
      cases he : E' t with
      | none => rw [he] at hb; cases hb
      | some x => rw [hE t x he]; rw [he] at hb; exact hb
  simp only [RChain] at hc ⊢
  cases hb : i.want E' with
  | none => rw [hb] at hc; exact absurd hc id
  | some b =>
    rw [hw b hb]
    rw [hb] at hc
    cases b with
    | true => exact ROpS.le hE hc fun x h' hx => hk _ _ _ (put_le hE _ _) hx
    | false => exact hk _ _ _ (put_le hE _ _) hc
theorem RTreeS.le {P : Program} {K : AEnv → AHeap → Prop} (hK : ∀ E1 E2 h, (∀ t x, E2 t = some x → E1 t = some x) → K E2 h → K E1 h) : ∀ (t : RTree) (E E' : AEnv) (h : AHeap), (∀ t x, E' t = some x → E t = some x) → RTreeS P K t E' h → RTreeS P K t E h
  | .done, E, E', h, hE, H => hK _ _ _ hE H
  | .step i t, E, E', h, hE, H => RChain1.le hE H fun E1 E2 h' hE' H' => RTreeS.le hK t E1 E2 h' hE' H'
  | .alt i t r, E, E', h, hE, H => ⟨RChain1.le hE H.1 fun E1 E2 h' hE' H' => RTreeS.le hK t E1 E2 h' hE' H', RTreeS.le hK r E E' h hE H.2⟩
  | .stop, _, _, _, _, _ => trivial

def t70 : RTree :=
  (.step ⟨(some 70), none, .pure, .pick (.tmp 62) (.tmp 69) (.const (.bool false))⟩ (.step ⟨(some 71), none, .pure, .mv (.tmp 70)⟩ (.step ⟨(some 72), (some (71, true)), .pure, .mv (.tmp 3)⟩ (.step ⟨(some 75), (some (71, true)), .pure, .mv (.tmp 3)⟩ (.alt ⟨(some 73), (some (71, true)), .act, .call 45 [(.tmp 72)]⟩ (.step ⟨(some 74), (some (71, true)), .pure, .toStr (.tmp 73)⟩ (.alt ⟨(some 76), (some (71, true)), .act, .call 46 [(.tmp 75)]⟩ (.step ⟨(some 77), (some (71, true)), .pure, .toStr (.tmp 76)⟩ (.step ⟨(some 78), (some (71, true)), .pure, .eq false .str (.tmp 74) (.tmp 77)⟩ (.step ⟨(some 79), none, .pure, .pick (.tmp 71) (.tmp 78) (.const (.bool false))⟩ (.step ⟨(some 80), none, .pure, .mv (.tmp 79)⟩ (.step ⟨(some 81), (some (80, true)), .pure, .mv (.tmp 11)⟩ (.step ⟨(some 82), (some (80, true)), .pure, .mv (.tmp 13)⟩ (.alt ⟨(some 83), (some (80, true)), .act, .call 47 [(.tmp 81), (.tmp 82)]⟩ (.step ⟨(some 84), none, .pure, .pick (.tmp 80) (.tmp 83) (.const (.bool false))⟩ (.step ⟨(some 85), none, .pure, .mv (.tmp 84)⟩ (.step ⟨(some 86), (some (85, true)), .pure, .mv (.tmp 12)⟩ (.step ⟨(some 87), (some (85, true)), .pure, .mv (.tmp 14)⟩ (.step ⟨(some 88), (some (85, true)), .pure, .eq false .int (.tmp 86) (.tmp 87)⟩ (.step ⟨(some 89), none, .pure, .pick (.tmp 85) (.tmp 88) (.const (.bool false))⟩ (.step ⟨(some 10), none, .pure, .mv (.tmp 89)⟩ .done)))))))
    .stop)))))))
    .stop))
    .stop)))))
def t61 : RTree :=
  (.step ⟨(some 61), none, .pure, .pick (.tmp 53) (.tmp 60) (.const (.bool false))⟩ (.step ⟨(some 62), none, .pure, .mv (.tmp 61)⟩ (.step ⟨(some 63), (some (62, true)), .read, .load true 4 (.tmp 7)⟩ (.alt ⟨(some 64), (some (62, true)), .act, .call 43 [(.tmp 63)]⟩ (.step ⟨(some 65), (some (62, true)), .pure, .toStr (.tmp 64)⟩ (.step ⟨(some 66), (some (62, true)), .read, .load true 4 (.tmp 7)⟩ (.alt ⟨(some 67), (some (62, true)), .act, .call 44 [(.tmp 66)]⟩ (.step ⟨(some 68), (some (62, true)), .pure, .toStr (.tmp 67)⟩ (.step ⟨(some 69), (some (62, true)), .pure, .eq false .str (.tmp 65) (.tmp 68)⟩ t70))
    .stop)))
    (.alt ⟨(some 66), (some (62, true)), .read, .load true 4 (.tmp 7)⟩ (.alt ⟨(some 64), (some (62, true)), .act, .call 43 [(.tmp 63)]⟩ (.step ⟨(some 65), (some (62, true)), .pure, .toStr (.tmp 64)⟩ (.alt ⟨(some 67), (some (62, true)), .act, .call 44 [(.tmp 66)]⟩ (.step ⟨(some 68), (some (62, true)), .pure, .toStr (.tmp 67)⟩ (.step ⟨(some 69), (some (62, true)), .pure, .eq false .str (.tmp 65) (.tmp 68)⟩ t70))
    .stop))
    .stop)
    .stop)))))
def t52 : RTree :=
  (.step ⟨(some 52), none, .pure, .eq false .str (.tmp 48) (.tmp 51)⟩ (.step ⟨(some 53), none, .pure, .mv (.tmp 52)⟩ (.step ⟨(some 54), (some (53, true)), .read, .load true 4 (.tmp 6)⟩ (.alt ⟨(some 55), (some (53, true)), .act, .call 41 [(.tmp 54)]⟩ (.step ⟨(some 56), (some (53, true)), .pure, .toStr (.tmp 55)⟩ (.step ⟨(some 57), (some (53, true)), .read, .load true 4 (.tmp 6)⟩ (.alt ⟨(some 58), (some (53, true)), .act, .call 42 [(.tmp 57)]⟩ (.step ⟨(some 59), (some (53, true)), .pure, .toStr (.tmp 58)⟩ (.step ⟨(some 60), (some (53, true)), .pure, .eq false .str (.tmp 56) (.tmp 59)⟩ t61))
    .stop)))
    (.alt ⟨(some 57), (some (53, true)), .read, .load true 4 (.tmp 6)⟩ (.alt ⟨(some 55), (some (53, true)), .act, .call 41 [(.tmp 54)]⟩ (.step ⟨(some 56), (some (53, true)), .pure, .toStr (.tmp 55)⟩ (.alt ⟨(some 58), (some (53, true)), .act, .call 42 [(.tmp 57)]⟩ (.step ⟨(some 59), (some (53, true)), .pure, .toStr (.tmp 58)⟩ (.step ⟨(some 60), (some (53, true)), .pure, .eq false .str (.tmp 56) (.tmp 59)⟩ t61))
    .stop))
    .stop)
    .stop)))))
def t8 : RTree :=
  (.step ⟨(some 46), none, .read, .load true 2 (.tmp 5)⟩ (.alt ⟨(some 47), none, .act, .call 39 [(.tmp 46)]⟩ (.step ⟨(some 48), none, .pure, .toStr (.tmp 47)⟩ (.step ⟨(some 49), none, .read, .load true 2 (.tmp 5)⟩ (.alt ⟨(some 50), none, .act, .call 40 [(.tmp 49)]⟩ (.step ⟨(some 51), none, .pure, .toStr (.tmp 50)⟩ t52)
    .stop)))
    (.alt ⟨(some 49), none, .read, .load true 2 (.tmp 5)⟩ (.alt ⟨(some 47), none, .act, .call 39 [(.tmp 46)]⟩ (.step ⟨(some 48), none, .pure, .toStr (.tmp 47)⟩ (.alt ⟨(some 50), none, .act, .call 40 [(.tmp 49)]⟩ (.step ⟨(some 51), none, .pure, .toStr (.tmp 50)⟩ t52)
    .stop))
    .stop)
    .stop)))
def md8 : Nat → Bool := fun id => [7].contains id
/-- plenum/plenumlaw08.RlogPuts -/
def r8 : RCode :=
  (.seq (.region [
    ⟨(some 5), none, .act, .box (.tmp 0)⟩,
    ⟨(some 6), none, .act, .box (.tmp 1)⟩,
    ⟨(some 7), none, .act, .box (.tmp 2)⟩,
    ⟨(some 10), none, .act, .mv (.const (.bool false))⟩])
  (.seq (.seq (.region [
    ⟨(some 15), none, .act, .call 10 []⟩,
    ⟨(some 16), none, .act, .un .not (.tmp 15)⟩])
  (.cond (.tmp 16)
   (.seq (.region [
     ⟨(some 10), none, .act, .mv (.const (.bool false))⟩])
   .ret)
   .skip))
  (.seq (.seq (.region [
    ⟨(some 17), none, .act, .load true 4 (.tmp 6)⟩,
    ⟨(some 18), none, .act, .buildSl 4 [(.int .u64 0), (.int .u64 0), (.int .i64 0), (.slice none 0 0)] 1 [(0, (.tmp 17))]⟩,
    ⟨(some 19), none, .act, .call 12 [(.tmp 18)]⟩,
    ⟨(some 20), none, .act, .un .not (.tmp 19)⟩,
    ⟨(some 21), none, .act, .mv (.tmp 20)⟩,
    ⟨(some 22), (some (21, false)), .act, .load true 4 (.tmp 7)⟩,
    ⟨(some 23), (some (21, false)), .act, .call 11 [(.tmp 22)]⟩,
    ⟨(some 24), (some (21, false)), .act, .un .not (.tmp 23)⟩,
    ⟨(some 25), none, .act, .pick (.tmp 21) (.const (.bool true)) (.tmp 24)⟩,
    ⟨(some 26), none, .act, .mv (.tmp 25)⟩,
    ⟨(some 27), (some (26, false)), .act, .mv (.tmp 3)⟩,
    ⟨(some 28), (some (26, false)), .act, .len (.tmp 27)⟩,
    ⟨(some 29), (some (26, false)), .act, .bin .gtr (.tmp 28) (.const (.int .i64 20))⟩,
    ⟨(some 30), none, .act, .pick (.tmp 26) (.const (.bool true)) (.tmp 29)⟩,
    ⟨(some 31), none, .act, .mv (.tmp 30)⟩,
    ⟨(some 32), (some (31, false)), .act, .mv (.tmp 4)⟩,
    ⟨(some 33), (some (31, false)), .act, .len (.tmp 32)⟩,
    ⟨(some 34), (some (31, false)), .act, .bin .gtr (.tmp 33) (.const (.int .i64 200))⟩,
    ⟨(some 35), none, .act, .pick (.tmp 31) (.const (.bool true)) (.tmp 34)⟩])
  (.cond (.tmp 35)
   (.seq (.region [
     ⟨(some 10), none, .act, .mv (.const (.bool true))⟩])
   .ret)
   .skip))
  (.seq (.region [
    ⟨(some 37), none, .act, .mv (.tmp 4)⟩,
    ⟨(some 38), none, .act, .call 37 [(.tmp 37)]⟩,
    ⟨(some 36), none, .act, .mv (.tmp 38)⟩,
    ⟨(some 39), none, .act, .extract (.tmp 36) 0⟩,
    ⟨(some 40), none, .act, .extract (.tmp 36) 1⟩,
    ⟨(some 11), none, .act, .mv (.tmp 39)⟩,
    ⟨(some 12), none, .act, .mv (.tmp 40)⟩])
  (.seq (.region [
    ⟨(some 42), none, .act, .mv (.tmp 4)⟩,
    ⟨(some 43), none, .act, .call 38 [(.tmp 42)]⟩,
    ⟨(some 41), none, .act, .mv (.tmp 43)⟩,
    ⟨(some 44), none, .act, .extract (.tmp 41) 0⟩,
    ⟨(some 45), none, .act, .extract (.tmp 41) 1⟩,
    ⟨(some 13), none, .act, .mv (.tmp 44)⟩,
    ⟨(some 14), none, .act, .mv (.tmp 45)⟩])
  (.seq (.regionT t8)
  .ret))))))
theorem res8 : ∃ c, Try.f8.body = some c ∧ resCodeM Try.prog 90 md8 c = some r8 := ⟨_, rfl, by kernel_rfl⟩
theorem rr8 : resRes Try.prog Try.f8.results.toList = some [.tmp 10] := by kernel_rfl

def K8 (Q : AV → AHeap → Prop) : AEnv → AHeap → Prop := fun E' h' => RRunG Try.prog none 90 [.code .ret] E' h' (FRes Try.prog Try.f8 Q)

theorem S.keepT (ts : List Nat) {t : RTree} {l l' : List (Nat × AV)} {h : AHeap} {Q : AV → AHeap → Prop} (hl : Env.keep ts l = l') (H : RTreeS Try.prog (K8 Q) t (Env.get l') h) : RTreeS Try.prog (K8 Q) t (Env.get l) h :=
  RTreeS.le (fun E1 E2 h hE H => RRun.weaken hE (fun w hr => ⟨hr, .refl h w⟩) H) t _ _ h (fun t x hx => Env.keep_get ts l t x (by rw [hl]; exact hx)) H

abbrev endE (l xs : List UInt64) (f : Int) : List (Nat × AV) := [(3, u64s l), (11, u64s xs), (12, i64 f), (13, u64s xs), (14, i64 f)]

theorem t70_ok (l xs : List UInt64) (hl : l.length ≤ 20) (hx : xs.length ≤ 1000000) (f : Int) (h : AHeap) (Q : AV → AHeap → Prop) (hQ : Q (bl true) h) :
    RTreeS Try.prog (K8 Q) t70 (Env.get ([(62, bl true), (69, bl true)] ++ endE l xs f)) h := by
  unfold t70
  have c1 := fun h => putMembers_spec l (by omega) h
  have c2 := fun h => refMembers_spec l (by omega) h
  have c3 := fun h => numbers_spec xs (by omega) h
  repeat' (first | refine S.nilK ?_ | (refine S.op rfl ?_; first | refine callS rfl rfl (c1 _) ?_ | refine callS rfl rfl (c2 _) ?_ | refine callS rfl rfl (c3 _) ?_ | refine S.toStrS rfl ?_ | refine S.eqStrSame rfl rfl ?_ | refine S.eqIntSame rfl rfl ?_ | refine R.mv rfl ?_ | refine R.loadR rfl rfl ?_ | refine R.load (by decide) rfl (by (repeat' (first | assumption | exact AHeap.set_same _ _ _ | refine AHeap.get_fresh ‹_› ?_ | refine AHeap.so ?_ ?_ | exact AHeap.n1 ‹_› | exact AHeap.n2 ‹_› | exact AHeap.ne_of ‹_› ‹_› | exact AHeap.n4 ‹_› ‹_› | exact AHeap.n5 ‹_› | exact AHeap.n6 ‹_› | exact AHeap.n7 ‹_› ‹_› | exact AHeap.n8 ‹_› ‹_›)); first | done | fail) rfl ?_ | refine R.pickT rfl rfl ?_ | refine R.pickF rfl rfl ?_ | refine R.len rfl ?_ | refine R.lenA rfl ?_ | refine R.lenStr rfl ?_ | refine R.not rfl ?_ | refine R.eqPtrNil rfl rfl ?_ | refine R.extract rfl rfl ?_ | refine R.box rfl rfl rfl (fun b hb => ?_) | refine R.buildSl rfl rfl rfl (by decide) ?_ | refine R.toStr rfl ?_ | ((first | refine S.gtr rfl rfl ?_ ?_ | refine S.eqInt rfl rfl ?_ ?_) <;> intro hlt <;> try (exfalso; omega))) | refine S.skip rfl ?_ | refine S.skip0 rfl ?_ | refine S.seq ?_ | refine S.region ?_ | refine S.regionT ?_ | refine S.tstep ?_ | refine S.talt ?_ ?_ | exact S.tstop | refine S.condT rfl ?_ | refine S.condF rfl ?_ | refine RRun.skip ?_ | refine RRun.block ?_ | refine RRun.inBlock ?_ | refine RRun.exit rfl ?_)
  refine S.tdone ?_
  show RRunG _ _ _ _ _ _ _
  apply S.ret rr8
  case hx => repeat (first | exact ResAt.nil | apply ResAt.tmp rfl | apply ResAt.cellA rfl (by (repeat' (first | assumption | exact AHeap.set_same _ _ _ | refine AHeap.get_fresh ‹_› ?_ | refine AHeap.so ?_ ?_ | exact AHeap.n1 ‹_› | exact AHeap.n2 ‹_› | exact AHeap.ne_of ‹_› ‹_› | exact AHeap.n4 ‹_› ‹_› | exact AHeap.n5 ‹_› | exact AHeap.n6 ‹_› | exact AHeap.n7 ‹_› ‹_› | exact AHeap.n8 ‹_› ‹_›)); first | done | fail) (by rfl) | apply ResAt.cell1 rfl (by (repeat' (first | assumption | exact AHeap.set_same _ _ _ | refine AHeap.get_fresh ‹_› ?_ | refine AHeap.so ?_ ?_ | exact AHeap.n1 ‹_› | exact AHeap.n2 ‹_› | exact AHeap.ne_of ‹_› ‹_› | exact AHeap.n4 ‹_› ‹_› | exact AHeap.n5 ‹_› | exact AHeap.n6 ‹_› | exact AHeap.n7 ‹_› ‹_› | exact AHeap.n8 ‹_› ‹_›)); first | done | fail) (by rfl))
  exact hQ

theorem t61_ok (s : Snap) (hm : s.members.length ≤ 49) (hd : s.data.length ≤ 100000) (p7 : Nat) (l xs : List UInt64) (hl : l.length ≤ 20) (hx : xs.length ≤ 1000000) (f : Int) (h : AHeap) (h7 : h p7 = some (.box s.cells)) (Q : AV → AHeap → Prop) (hQ : Q (bl true) h) :
    RTreeS Try.prog (K8 Q) t61 (Env.get ([(53, bl true), (60, bl true), (7, ptr p7)] ++ endE l xs f)) h := by
  have next := t70_ok l xs hl hx f h Q hQ
  obtain ⟨ix, t, ms, data⟩ := s
  replace h7 : h p7 = some (.box [enc ix, enc t, u64s ms, bysC data .ro]) := h7
  unfold t61
  have c1 := fun h => putSnap_spec ⟨ix, t, ms, data⟩ hm hd h
  have c2 := fun h => refSnap_spec ⟨ix, t, ms, data⟩ hm hd h
  repeat' (first | ((show RTreeS _ _ t70 _ _; exact S.keepT [62, 69, 3, 11, 12, 13, 14] rfl next)) | refine S.nilK ?_ | (refine S.op rfl ?_; first | refine callS rfl rfl (c1 _) ?_ | refine callS rfl rfl (c2 _) ?_ | refine S.toStrS rfl ?_ | refine S.eqStrSame rfl rfl ?_ | refine R.mv rfl ?_ | refine R.loadR rfl rfl ?_ | refine R.load (by decide) rfl (by (repeat' (first | assumption | exact AHeap.set_same _ _ _ | refine AHeap.get_fresh ‹_› ?_ | refine AHeap.so ?_ ?_ | exact AHeap.n1 ‹_› | exact AHeap.n2 ‹_› | exact AHeap.ne_of ‹_› ‹_› | exact AHeap.n4 ‹_› ‹_› | exact AHeap.n5 ‹_› | exact AHeap.n6 ‹_› | exact AHeap.n7 ‹_› ‹_› | exact AHeap.n8 ‹_› ‹_›)); first | done | fail) rfl ?_ | refine R.pickT rfl rfl ?_ | refine R.pickF rfl rfl ?_ | refine R.len rfl ?_ | refine R.lenA rfl ?_ | refine R.lenStr rfl ?_ | refine R.not rfl ?_ | refine R.eqPtrNil rfl rfl ?_ | refine R.extract rfl rfl ?_ | refine R.box rfl rfl rfl (fun b hb => ?_) | refine R.buildSl rfl rfl rfl (by decide) ?_ | refine R.toStr rfl ?_ | ((first | refine S.gtr rfl rfl ?_ ?_ | refine S.eqInt rfl rfl ?_ ?_) <;> intro hlt <;> try (exfalso; omega))) | refine S.skip rfl ?_ | refine S.skip0 rfl ?_ | refine S.seq ?_ | refine S.region ?_ | refine S.regionT ?_ | refine S.tstep ?_ | refine S.talt ?_ ?_ | exact S.tstop | refine S.tdone ?_ | refine S.condT rfl ?_ | refine S.condF rfl ?_ | refine RRun.skip ?_ | refine RRun.block ?_ | refine RRun.inBlock ?_ | refine RRun.exit rfl ?_)

theorem t52_ok (e : Entry) (hk : -9223372036854775808 ≤ e.kind ∧ e.kind ≤ 9223372036854775807) (he : e.data.length ≤ 100000) (s : Snap) (hm : s.members.length ≤ 49) (hd : s.data.length ≤ 100000) (p6 p7 : Nat) (l xs : List UInt64) (hl : l.length ≤ 20) (hx : xs.length ≤ 1000000) (f : Int) (h : AHeap) (h6 : h p6 = some (.box e.cells)) (h7 : h p7 = some (.box s.cells)) (Q : AV → AHeap → Prop) (hQ : Q (bl true) h) (a : List UInt8) :
    RTreeS Try.prog (K8 Q) t52 (Env.get ([(48, str a), (51, str a), (6, ptr p6), (7, ptr p7)] ++ endE l xs f)) h := by
  have next := t61_ok s hm hd p7 l xs hl hx f h h7 Q hQ
  obtain ⟨ix, t, kind, data⟩ := e
  replace h6 : h p6 = some (.box [enc ix, enc t, i64 kind, bysC data .ro]) := h6
  unfold t52
  have c1 := fun h => putEntry_spec ⟨ix, t, kind, data⟩ hk he h
  have c2 := fun h => refEntry_spec ⟨ix, t, kind, data⟩ hk he h
  repeat' (first | ((show RTreeS _ _ t61 _ _; exact S.keepT [53, 60, 7, 3, 11, 12, 13, 14] rfl next)) | refine S.nilK ?_ | (refine S.op rfl ?_; first | refine callS rfl rfl (c1 _) ?_ | refine callS rfl rfl (c2 _) ?_ | refine S.toStrS rfl ?_ | refine S.eqStrSame rfl rfl ?_ | refine R.mv rfl ?_ | refine R.loadR rfl rfl ?_ | refine R.load (by decide) rfl (by (repeat' (first | assumption | exact AHeap.set_same _ _ _ | refine AHeap.get_fresh ‹_› ?_ | refine AHeap.so ?_ ?_ | exact AHeap.n1 ‹_› | exact AHeap.n2 ‹_› | exact AHeap.ne_of ‹_› ‹_› | exact AHeap.n4 ‹_› ‹_› | exact AHeap.n5 ‹_› | exact AHeap.n6 ‹_› | exact AHeap.n7 ‹_› ‹_› | exact AHeap.n8 ‹_› ‹_›)); first | done | fail) rfl ?_ | refine R.pickT rfl rfl ?_ | refine R.pickF rfl rfl ?_ | refine R.len rfl ?_ | refine R.lenA rfl ?_ | refine R.lenStr rfl ?_ | refine R.not rfl ?_ | refine R.eqPtrNil rfl rfl ?_ | refine R.extract rfl rfl ?_ | refine R.box rfl rfl rfl (fun b hb => ?_) | refine R.buildSl rfl rfl rfl (by decide) ?_ | refine R.toStr rfl ?_ | ((first | refine S.gtr rfl rfl ?_ ?_ | refine S.eqInt rfl rfl ?_ ?_) <;> intro hlt <;> try (exfalso; omega))) | refine S.skip rfl ?_ | refine S.skip0 rfl ?_ | refine S.seq ?_ | refine S.region ?_ | refine S.regionT ?_ | refine S.tstep ?_ | refine S.talt ?_ ?_ | exact S.tstop | refine S.tdone ?_ | refine S.condT rfl ?_ | refine S.condF rfl ?_ | refine RRun.skip ?_ | refine RRun.block ?_ | refine RRun.inBlock ?_ | refine RRun.exit rfl ?_)

theorem t8_ok (t v : UInt64) (e : Entry) (hk : -9223372036854775808 ≤ e.kind ∧ e.kind ≤ 9223372036854775807) (he : e.data.length ≤ 100000) (s : Snap) (hm : s.members.length ≤ 49) (hd : s.data.length ≤ 100000) (p5 p6 p7 : Nat) (l xs : List UInt64) (hl : l.length ≤ 20) (hx : xs.length ≤ 1000000) (f : Int) (h : AHeap) (h5 : h p5 = some (.box [enc t, enc v])) (h6 : h p6 = some (.box e.cells)) (h7 : h p7 = some (.box s.cells)) (Q : AV → AHeap → Prop) (hQ : Q (bl true) h) :
    RTreeS Try.prog (K8 Q) t8 (Env.get ([(5, ptr p5), (6, ptr p6), (7, ptr p7)] ++ endE l xs f)) h := by
  have next := t52_ok e hk he s hm hd p6 p7 l xs hl hx f h h6 h7 Q hQ (putNs [1, t, v])
  unfold t8
  have c1 := fun h => putHard_spec t v h
  have c2 := fun h => refHard_spec t v h
  repeat' (first | ((show RTreeS _ _ t52 _ _; exact S.keepT [48, 51, 6, 7, 3, 11, 12, 13, 14] rfl next)) | refine S.nilK ?_ | (refine S.op rfl ?_; first | refine callS rfl rfl (c1 _) ?_ | refine callS rfl rfl (c2 _) ?_ | refine S.toStrS rfl ?_ | refine R.mv rfl ?_ | refine R.loadR rfl rfl ?_ | refine R.load (by decide) rfl (by (repeat' (first | assumption | exact AHeap.set_same _ _ _ | refine AHeap.get_fresh ‹_› ?_ | refine AHeap.so ?_ ?_ | exact AHeap.n1 ‹_› | exact AHeap.n2 ‹_› | exact AHeap.ne_of ‹_› ‹_› | exact AHeap.n4 ‹_› ‹_› | exact AHeap.n5 ‹_› | exact AHeap.n6 ‹_› | exact AHeap.n7 ‹_› ‹_› | exact AHeap.n8 ‹_› ‹_›)); first | done | fail) rfl ?_ | refine R.pickT rfl rfl ?_ | refine R.pickF rfl rfl ?_ | refine R.len rfl ?_ | refine R.lenA rfl ?_ | refine R.lenStr rfl ?_ | refine R.not rfl ?_ | refine R.eqPtrNil rfl rfl ?_ | refine R.extract rfl rfl ?_ | refine R.box rfl rfl rfl (fun b hb => ?_) | refine R.buildSl rfl rfl rfl (by decide) ?_ | refine R.toStr rfl ?_ | ((first | refine S.gtr rfl rfl ?_ ?_ | refine S.eqInt rfl rfl ?_ ?_) <;> intro hlt <;> try (exfalso; omega))) | refine S.skip rfl ?_ | refine S.skip0 rfl ?_ | refine S.seq ?_ | refine S.region ?_ | refine S.regionT ?_ | refine S.tstep ?_ | refine S.talt ?_ ?_ | exact S.tstop | refine S.tdone ?_ | refine S.condT rfl ?_ | refine S.condF rfl ?_ | refine RRun.skip ?_ | refine RRun.block ?_ | refine RRun.inBlock ?_ | refine RRun.exit rfl ?_)

end Go.Proofs.Ytnmgamcmjjngcaa
