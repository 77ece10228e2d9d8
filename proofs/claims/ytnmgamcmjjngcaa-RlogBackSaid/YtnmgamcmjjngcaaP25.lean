/-
  A log that is put record by record is replayed as it was, for every input (where its snapshot's members may be).
-/
import Derived.Test.YtnmgamcmjjngcaaP24
import Derived.Test.YtnmgamcmjjngcaaP15
set_option linter.unusedVariables false
set_option linter.unusedSimpArgs false
namespace Go.Proofs.Ytnmgamcmjjngcaa
open Go.Av
def r48l0 : RCode :=
  (.seq (.region [
    ⟨(some 16), none, .act, .bin .lss (.tmp 15) (.tmp 14)⟩])
  (.seq (.cond (.tmp 16)
   .skip
   (.exit 0))
  (.seq (.block 1
   (.seq (.region [
     ⟨(some 17), none, .act, .indexAddr 1 (.tmp 13) (.tmp 15)⟩,
     ⟨(some 18), none, .act, .load false 1 (.tmp 17)⟩,
     ⟨(some 7), none, .act, .mv (.tmp 18)⟩])
   (.seq (.region [
     ⟨(some 19), none, .act, .mv (.tmp 5)⟩,
     ⟨(some 20), none, .act, .mv (.tmp 7)⟩,
     ⟨(some 21), none, .act, .call 88 [(.tmp 19), (.tmp 20)]⟩,
     ⟨(some 8), none, .act, .mv (.tmp 21)⟩])
   (.seq (.region [
     ⟨(some 22), none, .act, .mv (.tmp 8)⟩,
     ⟨(some 23), none, .act, .eq true .int (.tmp 22) (.const (.int .i64 0))⟩])
   (.cond (.tmp 23)
    (.seq (.region [
      ⟨(some 24), none, .act, .build [(.int .u64 0), (.int .u64 0)] []⟩,
      ⟨(some 25), none, .act, .mv (.tmp 8)⟩,
      ⟨none, none, .act, .store 2 (.tmp 2) (.tmp 24)⟩,
      ⟨(some 3), none, .act, .mv (.const (.pointer none))⟩,
      ⟨(some 4), none, .act, .mv (.tmp 25)⟩])
    .ret)
    .skip)))))
  (.region [
    ⟨(some 26), none, .act, .bin .add (.tmp 15) (.const (.int .i64 1))⟩,
    ⟨(some 15), none, .act, .mv (.tmp 26)⟩]))))
def r48 : RCode :=
  (.seq (.region [
    ⟨(some 2), none, .act, .alloc [(.int .u64 0), (.int .u64 0)]⟩,
    ⟨(some 3), none, .act, .mv (.const (.pointer none))⟩,
    ⟨(some 4), none, .act, .mv (.const (.int .i64 0))⟩])
  (.seq (.region [
    ⟨(some 9), none, .act, .build [(.int .u64 0), (.int .u64 0), (.slice none 0 0), (.slice none 0 0)] []⟩,
    ⟨(some 10), none, .act, .call 13 [(.tmp 9)]⟩,
    ⟨(some 11), none, .act, .build [(.int .u64 0), (.int .u64 0), (.pointer none)] [(2, 1, (.tmp 10))]⟩,
    ⟨(some 12), none, .act, .box (.tmp 11)⟩,
    ⟨(some 5), none, .act, .mv (.tmp 12)⟩])
  (.seq (.seq (.region [
    ⟨(some 13), none, .act, .mv (.tmp 0)⟩,
    ⟨(some 14), none, .act, .len (.tmp 13)⟩,
    ⟨(some 15), none, .act, .mv (.const (.int .i64 0))⟩])
  (.block 0
   (.loop r48l0)))
  (.seq (.region [
    ⟨(some 27), none, .act, .mv (.tmp 5)⟩,
    ⟨(some 28), none, .act, .nilCheck (.tmp 27)⟩,
    ⟨(some 29), none, .act, .fieldAddr 2 (.tmp 28)⟩,
    ⟨(some 30), none, .act, .load false 1 (.tmp 29)⟩,
    ⟨(some 31), none, .act, .call 35 [(.tmp 30)]⟩])
  (.seq (.regionT (.step ⟨(some 32), none, .pure, .mv (.tmp 5)⟩ (.step ⟨(some 33), none, .pure, .nilCheck (.tmp 32)⟩ (.step ⟨(some 34), none, .pure, .fieldAddr 0 (.tmp 33)⟩ (.step ⟨(some 35), none, .read, .load true 2 (.tmp 34)⟩ (.step ⟨(some 36), none, .pure, .mv (.tmp 5)⟩ (.step ⟨(some 37), none, .pure, .nilCheck (.tmp 36)⟩ (.step ⟨(some 38), none, .pure, .fieldAddr 2 (.tmp 37)⟩ (.alt ⟨(some 39), none, .read, .load false 1 (.tmp 38)⟩ (.alt ⟨none, none, .act, .store 2 (.tmp 2) (.tmp 35)⟩ (.step ⟨(some 3), none, .pure, .mv (.tmp 39)⟩ (.step ⟨(some 4), none, .pure, .mv (.const (.int .i64 0))⟩ .done))
    .stop)
    (.alt ⟨none, none, .act, .store 2 (.tmp 2) (.tmp 35)⟩ (.step ⟨(some 39), none, .read, .load false 1 (.tmp 38)⟩ (.step ⟨(some 3), none, .pure, .mv (.tmp 39)⟩ (.step ⟨(some 4), none, .pure, .mv (.const (.int .i64 0))⟩ .done)))
    .stop))))))))))
  .ret)))))
theorem res48 : ∃ c, Try.f48.body = some c ∧ resCode Try.prog 40 c = some r48 := ⟨_, rfl, by kernel_rfl⟩
theorem rr48 : resRes Try.prog Try.f48.results.toList = some [.cell 2 true 2, .tmp 3, .tmp 4] := by kernel_rfl
abbrev recsA (recs : List (List UInt8)) : AV := .sl 1 (recs.map fun b => [bysC b .ro]) .ro
theorem rep_loop (Z : Snap) (hS : Z.index.toNat ≤ 4611686018427387904) (l : List Entry) (hl : l.length ≤ 1000) (hrun : Runs Z.index.toNat l) (hent : ∀ e ∈ l, (-9223372036854775808 ≤ e.kind ∧ e.kind ≤ 9223372036854775807) ∧ e.data.length ≤ 100000) (t v : UInt64) (p q b2 : Nat) (hpq : p ≠ q) (G : AHeap) (hGp : G p = some (.box [enc t, enc v, ptr q])) (recs : List (List UInt8)) (hlen : recs.length = l.length + 2) (hrec : ∀ k e, l[k]? = some e → recs[k + 2]? = some (putE e)) (k : List RT) (Q : AV → AHeap → Prop)
    (hk : ∀ d, RRun Try.prog Try.f48 40 k (Env.get [(2, ptr b2), (5, ptr p)]) (G.set q (.box (Log.cells ⟨Z, l, d, true⟩))) Q) : ∀ (m j : Nat) (d : UInt64), j + m = l.length →
    RRun Try.prog Try.f48 40 (.inLoop r48l0 :: .inBlock 0 :: k) (Env.get [(2, ptr b2), (5, ptr p), (13, recsA recs), (14, i64 recs.length), (15, i64 (j + 2 : Nat))]) (G.set q (.box (Log.cells ⟨Z, l.take j, d, true⟩))) Q := by
  intro m
  induction m with
  | zero =>
    intro j d hj
    rw [List.take_of_length_le (by omega)]
    refine RRun.inLoop ?_
    repeat' (first | refine S.nilK ?_ | (refine S.op rfl ?_; first | ((first | refine S.lss rfl rfl ?_ ?_) <;> intro hlt <;> try (exfalso; omega))) | refine S.seq ?_ | refine S.region ?_ | refine S.condF rfl ?_ | refine RRun.exit rfl ?_)
    exact S.keep [2, 5] rfl (hk d)
  | succ m ih =>
    intro j d hj
    obtain ⟨e, he⟩ : ∃ e, l[j]? = some e := ⟨_, List.getElem?_eq_getElem (by omega)⟩
    have hga : (recs.map fun b => [bysC b .ro])[((j + 2 : Nat) : Int).toNat]? = some [bysC (putE e) .ro] := by simp only [Int.toNat_natCast, List.getElem?_map, hrec j e he]; rfl
    have hmem := hent e (List.mem_of_getElem? he)
    have htk : l.take (j + 1) = l.take j ++ [e] := by rw [List.take_add_one, he]; rfl
    have htl : (l.take j).length = j := by simp; omega
    obtain ⟨d', hd'⟩ := append_one Z (l.take j) d true e hS (by omega) (by rw [htl]; exact hrun j e he)
    have hp' : (G.set q (.box (Log.cells ⟨Z, l.take j, d, true⟩))) p = some (.box [enc t, enc v, ptr q]) := (AHeap.set_other _ _ hpq).trans hGp
    have c88 := one_entry e hmem.1 hmem.2 ⟨Z, l.take j, d, true⟩ (by simp only; omega) (by simp only; omega) t v p q hpq _ hp' (AHeap.set_same _ _ _)
    rw [hd', AHeap.set_set, ← htk] at c88
    refine RRun.inLoop ?_
    repeat' (first | refine S.nilK ?_ | (refine S.op rfl ?_; first | refine R.indexAddr (cc := .ro) (es := recs.map fun b => [bysC b .ro]) rfl rfl (by omega) hga ?_ | refine callS rfl rfl c88 ?_ | refine R.mv rfl ?_ | refine R.loadR rfl rfl ?_ | refine S.addI rfl rfl (by omega) ?_ | ((first | refine S.lss rfl rfl ?_ ?_ | refine S.eqInt rfl rfl ?_ ?_) <;> intro hlt <;> try (exfalso; omega))) | refine S.seq ?_ | refine S.region ?_ | refine S.condT rfl ?_ | refine S.condF rfl ?_ | refine RRun.skip ?_ | refine RRun.block ?_ | refine RRun.inBlock ?_)
    rw [show (((j + 2 : Nat) : Int) + 1) = ((j + 1 + 2 : Nat) : Int) by omega]
    exact S.keep [2, 5, 13, 14, 15] rfl (ih (j + 1) d' (by omega))
end Go.Proofs.Ytnmgamcmjjngcaa

namespace Go.Proofs.Ytnmgamcmjjngcaa
open Go.Av
theorem replay_spec (s : Snap) (M : List UInt64) (hM : ofM (putM s.members) = some M) (hd : s.data.length ≤ 100000) (Z : Snap) (hZ : Z = (⟨s.index, s.term, M, s.data⟩ : Snap).copied) (hZi : Z.index.toNat ≤ 4611686018427387904) (t v : UInt64) (l : List Entry) (hl : l.length ≤ 1000) (hrun : Runs Z.index.toNat l) (hent : ∀ e ∈ l, (-9223372036854775808 ≤ e.kind ∧ e.kind ≤ 9223372036854775807) ∧ e.data.length ≤ 100000) (h : AHeap) :
    ACalls Try.prog 48 [recsA (putS s :: putNs [1, t, v] :: l.map putE)] h (fun x h' => ∃ q, h q = none ∧ x = .tu [.ag [enc t, enc v], ptr q, i64 0] ∧ h' = h.set q (.box (Log.cells ⟨Z, l, 0, false⟩))) := by
  obtain ⟨c, hc1, hc2⟩ := res48
  refine ACalls.weak (ACalls.enter Try.func48 hc1 Try.ntmps48 hc2 (Nat.le_of_ble_eq_true rfl) rfl ?_)
  have c13 : ∀ h, ACalls Try.prog 13 [.ag [enc 0, enc 0, .v (.slice none 0 0), .v (.slice none 0 0)]] h (fun x h' => ∃ b, h b = none ∧ x = ptr b ∧ h' = h.set b (.box (Log.cells ⟨(⟨0, 0, [], []⟩ : Snap).copied, [], 0, false⟩))) := fun h =>
    ACalls.args (new_spec ⟨0, 0, [], []⟩ (by simp) (by simp) h) (.cons (.ag (.cons (.refl _) (.cons (.refl _) (.cons (.nilSl 1 (c := .ro) trivial) (.cons (.nilSl 1 (c := .ro) trivial) .nil))))) .nil)
  have hz0 : ((⟨0, 0, [], []⟩ : Snap).copied).index = 0 := by decide
  repeat' (first | refine S.nilK ?_ | (refine S.op rfl ?_; first | refine R.mv rfl ?_ | refine R.alloc rfl (fun b hb => ?_) | refine R.build rfl rfl ?_) | refine S.seq ?_ | refine S.region ?_)
  refine S.op rfl (R.call rfl rfl ((c13 _).mono ?_))
  rintro x h1 ⟨q, hq, rfl, rfl⟩
  revert b hb
  intro b2 hb2 hq
  have hqb : q ≠ b2 := (AHeap.fresh_set hq).1
  have hq0 : h q = none := (AHeap.fresh_set hq).2
  repeat' (first | refine S.nilK ?_ | (refine S.op rfl ?_; first | refine R.mv rfl ?_ | refine R.len rfl ?_ | refine R.box rfl rfl rfl (fun b hb => ?_) | refine R.build rfl rfl ?_) | refine S.seq ?_ | refine S.region ?_ | refine RRun.block ?_)
  have hbq : b ≠ q := (AHeap.fresh_set hb).1
  have hbb : b ≠ b2 := (AHeap.fresh_set (AHeap.fresh_set hb).2).1
  have hb0 : h b = none := (AHeap.fresh_set (AHeap.fresh_set hb).2).2
  have hqb' := Ne.symm hbq
  have hlen : ((putS s :: putNs [1, t, v] :: l.map putE).map fun b => [bysC b .ro]).length = l.length + 2 := by simp
  have hg0 : ((putS s :: putNs [1, t, v] :: l.map putE).map fun b => [bysC b .ro])[((0 : Nat) : Int).toNat]? = some [bysC (putS s) .ro] := rfl
  have hg1 : ((putS s :: putNs [1, t, v] :: l.map putE).map fun b => [bysC b .ro])[((1 : Nat) : Int).toNat]? = some [bysC (putNs [1, t, v]) .ro] := rfl
  generalize hG0 : AHeap.set _ b _ = G0
  have e1 : G0 b = some (.box [enc 0, enc 0, ptr q]) := by rw [← hG0]; exact AHeap.set_same _ _ _
  have e2 : G0 q = some (.box (Log.cells ⟨(⟨0, 0, [], []⟩ : Snap).copied, [], 0, false⟩)) := by rw [← hG0]; exact (AHeap.set_other _ _ hqb').trans (AHeap.set_same _ _ _)
  have c88a := one_snap s M hM hd _ hz0 false 0 0 b q hbq G0 e1 e2
  rw [← hZ] at c88a
  have c88b := one_hard t v 0 0 b q (G0.set q (.box (Log.cells ⟨Z, [], 0, true⟩))) ((AHeap.set_other _ _ hbq).trans e1)
  rw [hlen]
  refine RRun.loopIn (S.keep [2, 5, 13, 14, 15] (l' := [(2, ptr b2), (5, ptr b), (13, recsA (putS s :: putNs [1, t, v] :: l.map putE)), (14, i64 (l.length + 2 : Nat)), (15, i64 (0 : Nat))]) rfl (RRun.inLoop ?_))
  repeat' (first | refine S.nilK ?_ | (refine S.op rfl ?_; first | refine R.indexAddr (cc := .ro) (es := (putS s :: putNs [1, t, v] :: l.map putE).map fun b => [bysC b .ro]) rfl rfl (by omega) hg0 ?_ | refine callS rfl rfl c88a ?_ | refine R.mv rfl ?_ | refine R.loadR rfl rfl ?_ | refine S.addI rfl rfl (by omega) ?_ | ((first | refine S.lss rfl rfl ?_ ?_ | refine S.eqInt rfl rfl ?_ ?_) <;> intro hlt <;> try (exfalso; omega))) | refine S.seq ?_ | refine S.region ?_ | refine S.condT rfl ?_ | refine S.condF rfl ?_ | refine RRun.skip ?_ | refine RRun.block ?_ | refine RRun.inBlock ?_)
  refine S.keep [2, 5, 13, 14, 15] (l' := [(2, ptr b2), (5, ptr b), (13, recsA (putS s :: putNs [1, t, v] :: l.map putE)), (14, i64 (l.length + 2 : Nat)), (15, i64 (1 : Nat))]) rfl (RRun.inLoop ?_)
  repeat' (first | refine S.nilK ?_ | (refine S.op rfl ?_; first | refine R.indexAddr (cc := .ro) (es := (putS s :: putNs [1, t, v] :: l.map putE).map fun b => [bysC b .ro]) rfl rfl (by omega) hg1 ?_ | refine callS rfl rfl c88b ?_ | refine R.mv rfl ?_ | refine R.loadR rfl rfl ?_ | refine S.addI rfl rfl (by omega) ?_ | ((first | refine S.lss rfl rfl ?_ ?_ | refine S.eqInt rfl rfl ?_ ?_) <;> intro hlt <;> try (exfalso; omega))) | refine S.seq ?_ | refine S.region ?_ | refine S.condT rfl ?_ | refine S.condF rfl ?_ | refine RRun.skip ?_ | refine RRun.block ?_ | refine RRun.inBlock ?_)
  generalize hG1 : G0.set q (.box (Log.cells ⟨Z, [], 0, true⟩)) = G1
  have f1 : G1 q = some (.box (Log.cells ⟨Z, [], 0, true⟩)) := by rw [← hG1]; exact AHeap.set_same _ _ _
  have hG2 : G1.set b (.box [enc t, enc v, ptr q]) = (G1.set b (.box [enc t, enc v, ptr q])).set q (.box (Log.cells ⟨Z, l.take 0, 0, true⟩)) := (AHeap.set_eq _ ((AHeap.set_other _ _ hqb').trans f1)).symm
  rw [hG2]
  have hrl : (putS s :: putNs [1, t, v] :: l.map putE).length = l.length + 2 := by simp
  refine S.keep [2, 5, 13, 14, 15] (l' := [(2, ptr b2), (5, ptr b), (13, recsA (putS s :: putNs [1, t, v] :: l.map putE)), (14, i64 (l.length + 2 : Nat)), (15, i64 (0 + 2 : Nat))]) rfl ?_
  rw [← hrl]
  refine rep_loop Z hZi l hl hrun hent t v b q b2 hbq _ (AHeap.set_same _ _ _) (putS s :: putNs [1, t, v] :: l.map putE) hrl (fun k e he => by simp [he]) _ _ (fun d => ?_) l.length 0 0 (by omega)
  have f2 : (G1.set b (.box [enc t, enc v, ptr q])) b = some (.box [enc t, enc v, ptr q]) := AHeap.set_same _ _ _
  have f3 : (G1.set b (.box [enc t, enc v, ptr q])) b2 = some (.box [enc 0, enc 0]) := by
    have hb2b : b2 ≠ b := Ne.symm hbb
    have hb2q : b2 ≠ q := Ne.symm hqb
    rw [AHeap.set_other _ _ hb2b, ← hG1, AHeap.set_other _ _ hb2q, ← hG0, AHeap.set_other _ _ hb2b, AHeap.set_other _ _ hb2q]
    exact AHeap.set_same _ _ _
  have fle : ∀ x o, h x = some o → x ≠ q → (G1.set b (.box [enc t, enc v, ptr q])) x = some o := fun x o e hxq => by
    have x1 : x ≠ b := fun e' => by subst e'; rw [hb0] at e; cases e
    have x2 : x ≠ b2 := fun e' => by subst e'; rw [hb2] at e; cases e
    rw [AHeap.set_other _ _ x1, ← hG1, AHeap.set_other _ _ hxq, ← hG0, AHeap.set_other _ _ x1, AHeap.set_other _ _ hxq, AHeap.set_other _ _ x2]
    exact e
  generalize G1.set b (.box [enc t, enc v, ptr q]) = G2 at f2 f3 fle
  have hbq2 := hbq
  have hb2q : b2 ≠ q := Ne.symm hqb
  have c35 := fun g hg => clean_spec ⟨Z, l, d, true⟩ q g hg
  clear hG0 c88a c88b c13 hG2 f1 e1 e2 hG1
  repeat' (first | refine S.nilK ?_ | (refine S.op rfl ?_; first | refine callU rfl rfl (c35 _ (by (repeat' (first | exact AHeap.set_same _ _ _)); first | done | fail)) (fun _ => ?_) | refine R.mv rfl ?_ | refine R.fieldAddr rfl ?_ | refine R.nilCheck rfl ?_ | refine R.load (by decide) rfl (by (repeat' (first | assumption | refine AHeap.so ?_ ?_)); first | done | fail) rfl ?_) | (refine S.op0 rfl ?_; first | refine S.store rfl rfl (by (repeat' (first | assumption | refine AHeap.so ?_ ?_)); first | done | fail) rfl rfl rfl (by rfl) rfl ?_) | refine S.seq ?_ | refine S.region ?_ | refine S.regionT ?_ | refine S.talt ?_ ?_ | exact S.tstop | refine S.tdone ?_)
  all_goals
    apply S.ret rr48
    case hx => repeat (first | exact ResAt.nil | apply ResAt.tmp rfl | apply ResAt.cellA rfl (by (repeat' (first | exact AHeap.set_same _ _ _)); first | done | fail) (by rfl))
    refine ⟨_, h.set q (.box (Log.cells ⟨Z, l, 0, false⟩)), .refl _, fun x o e => ?_, q, hq0, rfl, rfl⟩
    by_cases hx : x = q
    · subst hx
      rw [AHeap.set_same] at e
      cases e
      exact ⟨_, (by (repeat' (first | assumption | exact AHeap.set_same _ _ _ | refine AHeap.so ?_ ?_)); first | done | fail), .refl _⟩
    · rw [AHeap.set_other _ _ hx] at e
      have hxb2 : x ≠ b2 := fun e' => by subst e'; rw [hb2] at e; cases e
      exact ⟨o, by simp only [AHeap.set, hx, hxb2, if_false]; exact fle x o e hx, .refl o⟩
end Go.Proofs.Ytnmgamcmjjngcaa

namespace Go.Proofs.Ytnmgamcmjjngcaa
open Go.Av
def Snap.small (s : Snap) : Bool := decide (s.members.length ≤ 9) && decide (s.data.length ≤ 200)
def r11 : RCode :=
  (.seq (.region [
    ⟨(some 1), none, .act, .box (.tmp 0)⟩,
    ⟨(some 2), none, .act, .mv (.const (.bool false))⟩])
  (.seq (.region [
    ⟨(some 3), none, .act, .fieldAddr 2 (.tmp 1)⟩,
    ⟨(some 4), none, .act, .load false 1 (.tmp 3)⟩,
    ⟨(some 5), none, .act, .len (.tmp 4)⟩,
    ⟨(some 6), none, .act, .bin .leq (.tmp 5) (.const (.int .i64 9))⟩,
    ⟨(some 7), none, .act, .mv (.tmp 6)⟩,
    ⟨(some 8), (some (7, true)), .act, .fieldAddr 3 (.tmp 1)⟩,
    ⟨(some 9), (some (7, true)), .act, .load false 1 (.tmp 8)⟩,
    ⟨(some 10), (some (7, true)), .act, .len (.tmp 9)⟩,
    ⟨(some 11), (some (7, true)), .act, .bin .leq (.tmp 10) (.const (.int .i64 200))⟩,
    ⟨(some 12), none, .act, .pick (.tmp 7) (.tmp 11) (.const (.bool false))⟩,
    ⟨(some 2), none, .act, .mv (.tmp 12)⟩])
  .ret))
theorem res11 : ∃ c, Try.f11.body = some c ∧ resCode Try.prog 13 c = some r11 := ⟨_, rfl, by kernel_rfl⟩
theorem rr11 : resRes Try.prog Try.f11.results.toList = some [.tmp 2] := by kernel_rfl
theorem smallSnap_spec (s : Snap) (h : AHeap) : ACalls Try.prog 11 [.ag s.cells] h (fun x h' => x = bl s.small ∧ h' = h) := by
  have h1 : (s.members.map fun x => [u64 x]).length = s.members.length := by simp
  have h2 := len_bytes s.data
  obtain ⟨c, hc1, hc2⟩ := res11
  refine ACalls.weak (ACalls.enter Try.func11 hc1 Try.ntmps11 hc2 (Nat.le_of_ble_eq_true rfl) rfl ?_)
  repeat' (first | refine S.nilK ?_ | (refine S.op rfl ?_; first | refine R.mv rfl ?_ | refine R.fieldAddr rfl ?_ | refine R.load (by decide) rfl (by (repeat' (first | exact AHeap.set_same _ _ _)); first | done | fail) rfl ?_ | refine R.pickT rfl rfl ?_ | refine R.pickF rfl rfl ?_ | refine R.len rfl ?_ | refine R.box rfl rfl rfl (fun b hb => ?_) | ((first | refine S.leq rfl rfl ?_ ?_) <;> intro hlt <;> try (exfalso; omega))) | refine S.skip rfl ?_ | refine S.seq ?_ | refine S.region ?_)
  all_goals
    apply S.ret rr11
    case hx => repeat (first | exact ResAt.nil | apply ResAt.tmp rfl)
    refine ⟨_, _, .refl _, (by repeat (first | exact AHeap.le.refl _ | refine AHeap.le.set ?_ _ (by (repeat' (first | assumption)); first | done | fail))), ?_, rfl⟩
    first
      | rw [show s.small = true by simp only [Snap.small, Bool.and_eq_true, decide_eq_true_eq]; omega]; rfl
      | rw [show s.small = false by simp only [Snap.small, Bool.and_eq_false_iff, decide_eq_false_iff_not]; omega]; rfl
def small (l : List Entry) : Bool := decide (l.length ≤ 12) && l.all fun e => decide (e.data.length ≤ 100)
theorem small_take (l : List Entry) (i : Nat) (hi : i < l.length) (hs : ¬ l[i].data.length ≤ 100) : small l = false := by
  have : (l.all fun e => decide (e.data.length ≤ 100)) = false := by
    simp only [List.all_eq_false, decide_eq_true_eq]
    exact ⟨l[i], List.getElem_mem hi, hs⟩
  rw [small, this, Bool.and_false]
def r12l0 : RCode :=
  (.seq (.region [
    ⟨(some 8), none, .act, .bin .lss (.tmp 7) (.tmp 6)⟩])
  (.seq (.cond (.tmp 8)
   .skip
   (.exit 0))
  (.seq (.block 1
   (.seq (.region [
     ⟨(some 9), none, .act, .indexAddr 4 (.tmp 5) (.tmp 7)⟩,
     ⟨(some 10), none, .act, .load true 4 (.tmp 9)⟩,
     ⟨(some 4), none, .act, .alloc [(.int .u64 0), (.int .u64 0), (.int .i64 0), (.slice none 0 0)]⟩,
     ⟨none, none, .act, .store 4 (.tmp 4) (.tmp 10)⟩])
   (.seq (.region [
     ⟨(some 11), none, .act, .fieldAddr 3 (.tmp 4)⟩,
     ⟨(some 12), none, .act, .load false 1 (.tmp 11)⟩,
     ⟨(some 13), none, .act, .len (.tmp 12)⟩,
     ⟨(some 14), none, .act, .bin .gtr (.tmp 13) (.const (.int .i64 100))⟩])
   (.cond (.tmp 14)
    (.seq (.region [
      ⟨(some 2), none, .act, .mv (.const (.bool false))⟩])
    .ret)
    .skip))))
  (.region [
    ⟨(some 15), none, .act, .bin .add (.tmp 7) (.const (.int .i64 1))⟩,
    ⟨(some 7), none, .act, .mv (.tmp 15)⟩]))))
def r12 : RCode :=
  (.seq (.region [
    ⟨(some 2), none, .act, .mv (.const (.bool false))⟩])
  (.seq (.seq (.region [
    ⟨(some 5), none, .act, .mv (.tmp 0)⟩,
    ⟨(some 6), none, .act, .len (.tmp 5)⟩,
    ⟨(some 7), none, .act, .mv (.const (.int .i64 0))⟩])
  (.block 0
   (.loop r12l0)))
  (.seq (.region [
    ⟨(some 16), none, .act, .mv (.tmp 0)⟩,
    ⟨(some 17), none, .act, .len (.tmp 16)⟩,
    ⟨(some 18), none, .act, .bin .leq (.tmp 17) (.const (.int .i64 12))⟩,
    ⟨(some 2), none, .act, .mv (.tmp 18)⟩])
  .ret)))
theorem res12 : ∃ c, Try.f12.body = some c ∧ resCode Try.prog 19 c = some r12 := ⟨_, rfl, by kernel_rfl⟩
theorem rr12 : resRes Try.prog Try.f12.results.toList = some [.tmp 2] := by kernel_rfl
theorem small_loop (l : List Entry) (hl : l.length ≤ 9223372036854775807) (h₀ : AHeap) (k : List RT)
    (hk : ∀ h, h₀.le h → (∀ j (hj : j < l.length), l[j].data.length ≤ 100) → RRun Try.prog Try.f12 19 k (Env.get [(0, entries l)]) h (Weak fun x h' => x = bl (small l) ∧ h' = h₀)) (m : Nat) :
    ∀ (i : Nat) (h : AHeap), i + m = l.length → h₀.le h → (∀ j (hj : j < l.length), j < i → l[j].data.length ≤ 100) →
      RRun Try.prog Try.f12 19 (.inLoop r12l0 :: .inBlock 0 :: k) (Env.get [(7, i64 i), (6, i64 l.length), (5, entries l), (0, entries l)]) h (Weak fun x h' => x = bl (small l) ∧ h' = h₀) := by
  induction m with
  | zero =>
    intro i h hi hg ha
    refine RRun.inLoop ?_
    repeat' (first | refine S.nilK ?_ | (refine S.op rfl ?_; first | ((first | refine S.lss rfl rfl ?_ ?_) <;> intro hlt <;> try (exfalso; omega))) | refine S.seq ?_ | refine S.region ?_ | refine S.condF rfl ?_ | refine RRun.exit rfl ?_)
    exact S.keep [0] rfl (hk h hg fun j hj => ha j hj (by omega))
  | succ m ih =>
    intro i h hi hg ha
    have hie : i < l.length := by omega
    have h1 : (l.map Entry.cells)[((i : Nat) : Int).toNat]? = some l[i].cells := by simp [hie]
    have hlen0 : (l.map Entry.cells).length = l.length := by simp
    have h2 := len_bytes l[i].data
    refine RRun.inLoop ?_
    repeat' (first | refine S.nilK ?_ | (refine S.op rfl ?_; first | refine R.indexAddr rfl rfl (by omega) h1 ?_ | refine R.mv rfl ?_ | refine R.fieldAddr rfl ?_ | refine R.loadR rfl rfl ?_ | refine R.load (by decide) rfl (by (repeat' (first | exact AHeap.set_same _ _ _)); first | done | fail) rfl ?_ | refine S.addI rfl rfl (by omega) ?_ | refine R.len rfl ?_ | refine R.alloc rfl (fun b hb => ?_) | ((first | refine S.lss rfl rfl ?_ ?_ | refine S.gtr rfl rfl ?_ ?_) <;> intro hlt <;> try (exfalso; omega))) | (refine S.op0 rfl ?_; first | refine S.store rfl rfl (by (repeat' (first | exact AHeap.set_same _ _ _)); first | done | fail) rfl rfl rfl (by rfl) rfl ?_) | refine S.seq ?_ | refine S.region ?_ | refine S.condT rfl ?_ | refine S.condF rfl ?_ | refine RRun.skip ?_ | refine RRun.block ?_ | refine RRun.inBlock ?_)
    ·
      apply S.ret rr12
      case hx => repeat (first | exact ResAt.nil | apply ResAt.tmp rfl)
      refine ⟨_, _, .refl _, (hg.set _ (hg.none (by assumption))).set _ (hg.none (by assumption)), ?_, rfl⟩
      rw [small_take l i hie (by omega)]; rfl
    · rw [show ((i : Int) + 1) = ((i + 1 : Nat) : Int) by omega]
      refine S.keep [7, 6, 5, 0] rfl (ih (i + 1) _ (by omega) ((hg.set _ (hg.none (by assumption))).set _ (hg.none (by assumption))) ?_)
      intro j hj hlt'
      by_cases e : j = i
      · subst e; omega
      · exact ha j hj (by omega)
theorem small_spec (l : List Entry) (hl : l.length ≤ 9223372036854775807) (h : AHeap) : ACalls Try.prog 12 [entries l] h (fun x h' => x = bl (small l) ∧ h' = h) := by
  have hlen : (l.map Entry.cells).length = l.length := by simp
  obtain ⟨c, hc1, hc2⟩ := res12
  refine ACalls.weak (ACalls.enter Try.func12 hc1 Try.ntmps12 hc2 (Nat.le_of_ble_eq_true rfl) rfl ?_)
  repeat' (first | refine S.nilK ?_ | (refine S.op rfl ?_; first | refine R.mv rfl ?_ | refine R.len rfl ?_) | refine S.seq ?_ | refine S.region ?_ | refine RRun.block ?_)
  rw [hlen]
  refine RRun.loopIn (S.keep [7, 6, 5, 0] rfl ?_)
  refine small_loop l hl h _ ?_ l.length 0 h (by omega) (.refl h) (fun j _ hj => absurd hj (Nat.not_lt_zero _))
  intro h' hle hall
  have ha : (l.all fun e => decide (e.data.length ≤ 100)) = true := by
    simp only [List.all_eq_true, decide_eq_true_eq]
    intro x hx
    obtain ⟨j, hj, rfl⟩ := List.getElem_of_mem hx
    exact hall j hj
  repeat' (first | refine S.nilK ?_ | (refine S.op rfl ?_; first | refine R.mv rfl ?_ | refine R.len rfl ?_ | ((first | refine S.leq rfl rfl ?_ ?_) <;> intro hlt <;> try (exfalso; omega))) | refine S.seq ?_ | refine S.region ?_)
  ·
    apply S.ret rr12
    case hx => repeat (first | exact ResAt.nil | apply ResAt.tmp rfl)
    refine ⟨_, _, .refl _, hle, ?_, rfl⟩
    rw [small, ha, decide_eq_true (show l.length ≤ 12 by omega)]; rfl
  ·
    apply S.ret rr12
    case hx => repeat (first | exact ResAt.nil | apply ResAt.tmp rfl)
    refine ⟨_, _, .refl _, hle, ?_, rfl⟩
    rw [small, ha, decide_eq_false (show ¬ l.length ≤ 12 by omega)]; rfl
end Go.Proofs.Ytnmgamcmjjngcaa

namespace Go.Proofs.Ytnmgamcmjjngcaa
open Go.Av
def zeroSnap : Snap := ⟨0, 0, [], []⟩
def oneEntry : Entry := ⟨1, 5, 0, []⟩
theorem zero_le : ALes [.ag [.v (.int .u64 0), .v (.int .u64 0), .v (.slice none 0 0), .v (.slice none 0 0)]] [.ag zeroSnap.cells] :=
  .cons (.ag (.cons (.refl _) (.cons (.refl _) (.cons (.nilSl 1 (c := .ro) trivial) (.cons (.nilSl 1 (c := .ro) trivial) .nil))))) .nil
def zeroLog : Log := ⟨zeroSnap.copied, [], 0, false⟩
def oneLog : Log := ⟨zeroSnap.copied, [oneEntry], 1, false⟩
theorem one_le {p : AV} : ALes [p, .sl 4 [[.v (.int .u64 1), .v (.int .u64 5), .v (.int .i64 0), .v (.slice none 0 0)]] .full] [p, entries [oneEntry]] :=
  .cons (.refl _) (.cons (.trans (.toRo _ _ _) (.sl (.cons (.refl _) (.cons (.refl _) (.cons (.refl _) (.cons (.nilSl 1 (c := .ro) trivial) .nil)))) rfl (by decide))) .nil)
def r10 : RCode :=
  (.seq (.region [
    ⟨(some 0), none, .act, .mv (.const (.bool false))⟩])
  (.seq (.region [
    ⟨(some 2), none, .act, .build [(.int .u64 0), (.int .u64 0), (.slice none 0 0), (.slice none 0 0)] []⟩,
    ⟨(some 3), none, .act, .call 13 [(.tmp 2)]⟩,
    ⟨(some 1), none, .act, .mv (.tmp 3)⟩])
  (.seq (.region [
    ⟨(some 4), none, .act, .mv (.tmp 1)⟩,
    ⟨(some 5), none, .act, .call 16 [(.tmp 4)]⟩,
    ⟨(some 6), none, .act, .eq false .int (.tmp 5) (.const (.int .u64 1))⟩,
    ⟨(some 7), none, .act, .mv (.tmp 6)⟩,
    ⟨(some 8), (some (7, true)), .act, .mv (.tmp 1)⟩,
    ⟨(some 9), (some (7, true)), .act, .call 50 [(.tmp 8)]⟩,
    ⟨(some 10), (some (7, true)), .act, .eq false .int (.tmp 9) (.const (.int .u64 0))⟩,
    ⟨(some 11), none, .act, .pick (.tmp 7) (.tmp 10) (.const (.bool false))⟩,
    ⟨(some 12), none, .act, .mv (.tmp 11)⟩,
    ⟨(some 13), (some (12, true)), .act, .mv (.tmp 1)⟩,
    ⟨(some 14), (some (12, true)), .act, .build [(.int .u64 0), (.int .u64 0), (.int .i64 0), (.slice none 0 0)] [(0, 1, (.const (.int .u64 1))), (1, 1, (.const (.int .u64 5)))]⟩,
    ⟨(some 15), (some (12, true)), .act, .buildSl 4 [(.int .u64 0), (.int .u64 0), (.int .i64 0), (.slice none 0 0)] 1 [(0, (.tmp 14))]⟩,
    ⟨(some 16), (some (12, true)), .act, .call 14 [(.tmp 13), (.tmp 15)]⟩,
    ⟨(some 17), (some (12, true)), .act, .eq false .int (.tmp 16) (.const (.int .i64 0))⟩,
    ⟨(some 18), none, .act, .pick (.tmp 12) (.tmp 17) (.const (.bool false))⟩,
    ⟨(some 19), none, .act, .mv (.tmp 18)⟩,
    ⟨(some 20), (some (19, true)), .act, .mv (.tmp 1)⟩,
    ⟨(some 21), (some (19, true)), .act, .call 50 [(.tmp 20)]⟩,
    ⟨(some 22), (some (19, true)), .act, .eq false .int (.tmp 21) (.const (.int .u64 1))⟩,
    ⟨(some 23), none, .act, .pick (.tmp 19) (.tmp 22) (.const (.bool false))⟩,
    ⟨(some 0), none, .act, .mv (.tmp 23)⟩])
  .ret)))
theorem res10 : ∃ c, Try.f10.body = some c ∧ resCode Try.prog 24 c = some r10 := ⟨_, rfl, by kernel_rfl⟩
theorem rr10 : resRes Try.prog Try.f10.results.toList = some [.tmp 0] := by kernel_rfl
theorem awake_spec (h : AHeap) : ACalls Try.prog 10 [] h (fun x h' => x = bl true ∧ h' = h) := by
  obtain ⟨c, hc1, hc2⟩ := res10
  refine ACalls.weak (ACalls.enter Try.func10 hc1 Try.ntmps10 hc2 (Nat.le_of_ble_eq_true rfl) rfl ?_)
  repeat' (first | refine S.nilK ?_ | (refine S.op rfl ?_; first | refine R.mv rfl ?_ | refine R.build rfl rfl ?_) | refine S.seq ?_ | refine S.region ?_)
  refine S.op rfl (R.call rfl rfl (ACalls.mono (ACalls.args (new_spec zeroSnap (by decide) (by decide) h) zero_le) ?_))
  rintro x h' ⟨p, hp, rfl, rfl⟩
  have c1 : ACalls Try.prog 16 [ptr p] (h.set p (.box zeroLog.cells)) (fun x h' => x = .v (.int .u64 1) ∧ h' = h.set p (.box zeroLog.cells)) := first_spec zeroLog _ _ (AHeap.set_same _ _ _)
  have c2 : ACalls Try.prog 50 [ptr p] (h.set p (.box zeroLog.cells)) (fun x h' => x = .v (.int .u64 0) ∧ h' = h.set p (.box zeroLog.cells)) := last_spec zeroLog (by decide) _ _ (AHeap.set_same _ _ _)
  have c3 : ACalls Try.prog 14 [ptr p, entries [oneEntry]] (h.set p (.box zeroLog.cells)) (fun x h' => x = .v (.int .i64 0) ∧ h' = h.set p (.box oneLog.cells)) :=
    ACalls.mono (append_spec zeroLog [oneEntry] (by simp [oneEntry]) (by decide) (by decide) (by decide) p _ (AHeap.set_same _ _ _)) (fun x h' hx => ⟨hx.1, by rw [hx.2, AHeap.set_set]; rfl⟩)
  have c4 : ACalls Try.prog 50 [ptr p] (h.set p (.box oneLog.cells)) (fun x h' => x = .v (.int .u64 1) ∧ h' = h.set p (.box oneLog.cells)) := last_spec oneLog (by decide) _ _ (AHeap.set_same _ _ _)
  repeat' (first | refine S.nilK ?_ | (refine S.op rfl ?_; first | refine R.callQ (by decide) rfl c1 ?_ | refine R.callQ (by decide) rfl c2 ?_ | refine R.eqInt rfl rfl ?_ | refine R.mv rfl ?_ | refine R.pickT rfl rfl ?_ | refine R.build rfl rfl ?_ | refine R.buildSl rfl rfl rfl (by decide) ?_) | refine S.seq ?_ | refine S.region ?_)
  refine S.op rfl (R.call rfl rfl (ACalls.mono (ACalls.args c3 one_le) ?_))
  rintro x h' ⟨rfl, rfl⟩
  repeat' (first | refine S.nilK ?_ | (refine S.op rfl ?_; first | refine R.callQ (by decide) rfl c4 ?_ | refine R.eqInt rfl rfl ?_ | refine R.mv rfl ?_ | refine R.pickT rfl rfl ?_))
  apply S.ret rr10
  case hx => repeat (first | exact ResAt.nil | apply ResAt.tmp rfl)
  exact ⟨_, _, .refl _, (AHeap.le.refl h).set _ hp, rfl, rfl⟩
end Go.Proofs.Ytnmgamcmjjngcaa

namespace Go.Proofs.Ytnmgamcmjjngcaa
open Go.Av
theorem at_all (L : Log) (hi : L.s.index ≤ far) (hl : L.l.length ≤ 100) : L.at' (L.s.index + 1) 100 = L.l := by
  have h3 := UInt64.le_iff_toNat_le.1 hi
  have h4 : far.toNat = 4611686018427387904 := rfl
  unfold Log.at'
  match hL : L.l with
  | [] => split <;> simp
  | x :: r =>
    rw [hL] at hl
    have h5 : (UInt64.ofNat (x :: r).length).toNat = (x :: r).length := UInt64.toNat_ofNat_of_lt' (by simp only [UInt64.size]; omega)
    have hle : L.s.index + 1 ≤ L.s.index + UInt64.ofNat (x :: r).length := UInt64.le_iff_toNat_le.2 (by
      simp only [UInt64.toNat_add, h5]
      simp at hl ⊢; omega)
    rw [if_pos ⟨UInt64.le_refl _, hle, by decide⟩, UInt64.sub_self]
    show (List.drop 0 (x :: r)).take 100 = x :: r
    rw [List.drop_zero, List.take_of_length_le hl]
theorem back_plain (s : Snap) (hs : s.index.toNat ≤ 2305843009213693952) (l : List Entry) (hl : l.length ≤ 12) :
    ((Log.append ⟨s, [], 0, false⟩ l).2 = 0 ∧ (∃ d, (Log.append ⟨s, [], 0, false⟩ l).1 = ⟨s, l, d, false⟩) ∧ Runs s.index.toNat l) ∨ (Log.append ⟨s, [], 0, false⟩ l).2 = 80 := by
  cases l with
  | nil => exact .inl ⟨rfl, ⟨0, rfl⟩, fun k e h => by simp at h⟩
  | cons x r =>
    unfold Log.append
    simp only
    split
    · next hc =>
      obtain ⟨hf, hA, hB⟩ := hc
      have hx := UInt64.toNat_lt x.index
      have h1 : (s.index + 1).toNat = s.index.toNat + 1 := by
        rw [UInt64.toNat_add]; show (s.index.toNat + 1) % 18446744073709551616 = _; omega
      have h2 : (s.index + UInt64.ofNat ([] : List Entry).length).toNat = s.index.toNat := by simp
      have h3 := UInt64.le_iff_toNat_le.1 hA
      have h4 := UInt64.le_iff_toNat_le.1 hB
      rw [h1] at h3
      rw [h2, UInt64.toNat_sub] at h4
      have h5 : (18446744073709551616 - 1 + x.index.toNat) % 18446744073709551616 ≤ s.index.toNat := h4
      exact .inl ⟨rfl, ⟨_, by simp; rfl⟩, runs_of _ _ (by simp only [List.length_cons] at hl ⊢; omega) hf (fun e he => by simp at he; subst he; omega)⟩
    · exact .inr rfl
def md9 : Nat → Bool := fun id => [11, 21].contains id
def r9l0 : RCode :=
  (.seq (.region [
    ⟨(some 58), none, .act, .bin .lss (.tmp 57) (.tmp 56)⟩])
  (.seq (.cond (.tmp 58)
   .skip
   (.exit 0))
  (.seq (.block 1
   (.seq (.region [
     ⟨(some 59), none, .act, .indexAddr 4 (.tmp 55) (.tmp 57)⟩,
     ⟨(some 60), none, .act, .load true 4 (.tmp 59)⟩,
     ⟨(some 12), none, .act, .alloc [(.int .u64 0), (.int .u64 0), (.int .i64 0), (.slice none 0 0)]⟩,
     ⟨none, none, .act, .store 4 (.tmp 12) (.tmp 60)⟩])
   (.region [
     ⟨(some 61), none, .act, .mv (.tmp 10)⟩,
     ⟨(some 62), none, .act, .load true 4 (.tmp 12)⟩,
     ⟨(some 63), none, .act, .call 41 [(.tmp 62)]⟩,
     ⟨(some 64), none, .act, .buildSl 1 [(.slice none 0 0)] 1 [(0, (.tmp 63))]⟩,
     ⟨(some 65), none, .act, .append 1 24 [(.slice none 0 0)] (.tmp 61) (.tmp 64)⟩,
     ⟨(some 10), none, .act, .mv (.tmp 65)⟩])))
  (.region [
    ⟨(some 66), none, .act, .bin .add (.tmp 57) (.const (.int .i64 1))⟩,
    ⟨(some 57), none, .act, .mv (.tmp 66)⟩]))))
def r9 : RCode :=
  (.seq (.region [
    ⟨(some 3), none, .act, .box (.tmp 0)⟩,
    ⟨(some 4), none, .act, .box (.tmp 1)⟩,
    ⟨(some 6), none, .act, .mv (.const (.bool false))⟩])
  (.seq (.seq (.region [
    ⟨(some 17), none, .act, .call 10 []⟩,
    ⟨(some 18), none, .act, .un .not (.tmp 17)⟩])
  (.cond (.tmp 18)
   (.seq (.region [
     ⟨(some 6), none, .act, .mv (.const (.bool false))⟩])
   .ret)
   .skip))
  (.seq (.seq (.region [
    ⟨(some 19), none, .act, .load true 4 (.tmp 4)⟩,
    ⟨(some 20), none, .act, .call 11 [(.tmp 19)]⟩,
    ⟨(some 21), none, .act, .un .not (.tmp 20)⟩,
    ⟨(some 22), none, .act, .mv (.tmp 21)⟩,
    ⟨(some 23), (some (22, false)), .act, .mv (.tmp 2)⟩,
    ⟨(some 24), (some (22, false)), .act, .call 12 [(.tmp 23)]⟩,
    ⟨(some 25), (some (22, false)), .act, .un .not (.tmp 24)⟩,
    ⟨(some 26), none, .act, .pick (.tmp 22) (.const (.bool true)) (.tmp 25)⟩,
    ⟨(some 27), none, .act, .mv (.tmp 26)⟩,
    ⟨(some 28), (some (27, false)), .act, .fieldAddr 0 (.tmp 4)⟩,
    ⟨(some 29), (some (27, false)), .act, .load false 1 (.tmp 28)⟩,
    ⟨(some 30), (some (27, false)), .act, .bin .gtr (.tmp 29) (.const (.int .u64 2305843009213693952))⟩,
    ⟨(some 31), none, .act, .pick (.tmp 27) (.const (.bool true)) (.tmp 30)⟩])
  (.cond (.tmp 31)
   (.seq (.region [
     ⟨(some 6), none, .act, .mv (.const (.bool true))⟩])
   .ret)
   .skip))
  (.seq (.seq (.region [
    ⟨(some 33), none, .act, .fieldAddr 2 (.tmp 4)⟩,
    ⟨(some 34), none, .act, .load false 1 (.tmp 33)⟩,
    ⟨(some 35), none, .act, .call 46 [(.tmp 34)]⟩,
    ⟨(some 36), none, .act, .call 38 [(.tmp 35)]⟩,
    ⟨(some 32), none, .act, .mv (.tmp 36)⟩,
    ⟨(some 37), none, .act, .extract (.tmp 32) 0⟩,
    ⟨(some 38), none, .act, .extract (.tmp 32) 1⟩,
    ⟨(some 7), none, .act, .mv (.tmp 37)⟩,
    ⟨(some 8), none, .act, .mv (.tmp 38)⟩])
  (.seq (.region [
    ⟨(some 39), none, .act, .mv (.tmp 8)⟩,
    ⟨(some 40), none, .act, .eq true .int (.tmp 39) (.const (.int .i64 0))⟩])
  (.cond (.tmp 40)
   (.seq (.region [
     ⟨(some 6), none, .act, .mv (.const (.bool true))⟩])
   .ret)
   .skip)))
  (.seq (.region [
    ⟨(some 41), none, .act, .load true 4 (.tmp 4)⟩,
    ⟨(some 42), none, .act, .call 13 [(.tmp 41)]⟩,
    ⟨(some 9), none, .act, .mv (.tmp 42)⟩])
  (.seq (.seq (.region [
    ⟨(some 43), none, .act, .mv (.tmp 9)⟩,
    ⟨(some 44), none, .act, .mv (.tmp 2)⟩,
    ⟨(some 45), none, .act, .call 14 [(.tmp 43), (.tmp 44)]⟩,
    ⟨(some 46), none, .act, .eq true .int (.tmp 45) (.const (.int .i64 0))⟩])
  (.cond (.tmp 46)
   (.seq (.region [
     ⟨(some 6), none, .act, .mv (.const (.bool true))⟩])
   .ret)
   .skip))
  (.seq (.regionT (.step ⟨(some 47), none, .read, .load true 4 (.tmp 4)⟩ (.alt ⟨(some 48), none, .act, .call 43 [(.tmp 47)]⟩ (.step ⟨(some 49), none, .read, .load true 2 (.tmp 3)⟩ (.alt ⟨(some 50), none, .act, .call 39 [(.tmp 49)]⟩ (.step ⟨(some 51), none, .pure, .buildSl 1 [(.slice none 0 0)] 2 [(0, (.tmp 48)), (1, (.tmp 50))]⟩ (.step ⟨(some 10), none, .pure, .mv (.tmp 51)⟩ .done))
    .stop))
    (.alt ⟨(some 49), none, .read, .load true 2 (.tmp 3)⟩ (.alt ⟨(some 48), none, .act, .call 43 [(.tmp 47)]⟩ (.alt ⟨(some 50), none, .act, .call 39 [(.tmp 49)]⟩ (.step ⟨(some 51), none, .pure, .buildSl 1 [(.slice none 0 0)] 2 [(0, (.tmp 48)), (1, (.tmp 50))]⟩ (.step ⟨(some 10), none, .pure, .mv (.tmp 51)⟩ .done))
    .stop)
    .stop)
    .stop))))
  (.seq (.seq (.region [
    ⟨(some 52), none, .act, .mv (.tmp 9)⟩,
    ⟨(some 53), none, .act, .mv (.tmp 9)⟩,
    ⟨(some 54), none, .act, .call 16 [(.tmp 53)]⟩,
    ⟨(some 55), none, .act, .call 15 [(.tmp 52), (.tmp 54), (.const (.int .i64 100))]⟩,
    ⟨(some 56), none, .act, .len (.tmp 55)⟩,
    ⟨(some 57), none, .act, .mv (.const (.int .i64 0))⟩])
  (.block 0
   (.loop r9l0)))
  (.seq (.region [
    ⟨(some 68), none, .act, .mv (.tmp 10)⟩,
    ⟨(some 69), none, .act, .call 48 [(.tmp 68)]⟩,
    ⟨(some 67), none, .act, .mv (.tmp 69)⟩,
    ⟨(some 70), none, .act, .extract (.tmp 67) 0⟩,
    ⟨(some 71), none, .act, .extract (.tmp 67) 1⟩,
    ⟨(some 72), none, .act, .extract (.tmp 67) 2⟩,
    ⟨(some 13), none, .act, .alloc [(.int .u64 0), (.int .u64 0)]⟩,
    ⟨none, none, .act, .store 2 (.tmp 13) (.tmp 70)⟩,
    ⟨(some 14), none, .act, .mv (.tmp 71)⟩,
    ⟨(some 15), none, .act, .mv (.tmp 72)⟩])
  (.seq (.seq (.region [
    ⟨(some 73), none, .act, .mv (.tmp 15)⟩,
    ⟨(some 74), none, .act, .eq true .int (.tmp 73) (.const (.int .i64 0))⟩,
    ⟨(some 75), none, .act, .mv (.tmp 74)⟩,
    ⟨(some 76), (some (75, false)), .act, .load true 2 (.tmp 13)⟩,
    ⟨(some 77), (some (75, false)), .act, .load true 2 (.tmp 3)⟩,
    ⟨(some 78), (some (75, false)), .act, .eq true (.agg [(0, .int), (1, .int)]) (.tmp 76) (.tmp 77)⟩,
    ⟨(some 79), none, .act, .pick (.tmp 75) (.const (.bool true)) (.tmp 78)⟩])
  (.cond (.tmp 79)
   (.seq (.region [
     ⟨(some 6), none, .act, .mv (.const (.bool false))⟩])
   .ret)
   .skip))
  (.seq (.region [
    ⟨(some 80), none, .act, .mv (.tmp 14)⟩,
    ⟨(some 81), none, .act, .call 49 [(.tmp 80)]⟩,
    ⟨(some 16), none, .act, .alloc [(.int .u64 0), (.int .u64 0), (.slice none 0 0), (.slice none 0 0)]⟩,
    ⟨none, none, .act, .store 4 (.tmp 16) (.tmp 81)⟩])
  (.seq (.regionT (.step ⟨(some 82), none, .pure, .fieldAddr 0 (.tmp 16)⟩ (.step ⟨(some 83), none, .read, .load false 1 (.tmp 82)⟩ (.step ⟨(some 84), none, .pure, .fieldAddr 0 (.tmp 4)⟩ (.step ⟨(some 85), none, .read, .load false 1 (.tmp 84)⟩ (.step ⟨(some 86), none, .pure, .eq false .int (.tmp 83) (.tmp 85)⟩ (.step ⟨(some 87), none, .pure, .mv (.tmp 86)⟩ (.step ⟨(some 88), (some (87, true)), .pure, .fieldAddr 1 (.tmp 16)⟩ (.step ⟨(some 89), (some (87, true)), .read, .load false 1 (.tmp 88)⟩ (.step ⟨(some 90), (some (87, true)), .pure, .fieldAddr 1 (.tmp 4)⟩ (.step ⟨(some 91), (some (87, true)), .read, .load false 1 (.tmp 90)⟩ (.step ⟨(some 92), (some (87, true)), .pure, .eq false .int (.tmp 89) (.tmp 91)⟩ (.step ⟨(some 93), none, .pure, .pick (.tmp 87) (.tmp 92) (.const (.bool false))⟩ (.step ⟨(some 94), none, .pure, .mv (.tmp 93)⟩ (.step ⟨(some 95), (some (94, true)), .pure, .fieldAddr 3 (.tmp 16)⟩ (.step ⟨(some 96), (some (94, true)), .read, .load false 1 (.tmp 95)⟩ (.step ⟨(some 97), (some (94, true)), .pure, .toStr (.tmp 96)⟩ (.step ⟨(some 98), (some (94, true)), .pure, .fieldAddr 3 (.tmp 4)⟩ (.step ⟨(some 99), (some (94, true)), .read, .load false 1 (.tmp 98)⟩ (.step ⟨(some 100), (some (94, true)), .pure, .toStr (.tmp 99)⟩ (.step ⟨(some 101), (some (94, true)), .pure, .eq false .str (.tmp 97) (.tmp 100)⟩ (.step ⟨(some 102), none, .pure, .pick (.tmp 94) (.tmp 101) (.const (.bool false))⟩ (.step ⟨(some 103), none, .pure, .mv (.tmp 102)⟩ (.step ⟨(some 104), (some (103, true)), .pure, .fieldAddr 2 (.tmp 16)⟩ (.step ⟨(some 105), (some (103, true)), .read, .load false 1 (.tmp 104)⟩ (.step ⟨(some 108), (some (103, true)), .pure, .fieldAddr 2 (.tmp 4)⟩ (.alt ⟨(some 106), (some (103, true)), .act, .call 45 [(.tmp 105)]⟩ (.step ⟨(some 107), (some (103, true)), .pure, .toStr (.tmp 106)⟩ (.step ⟨(some 109), (some (103, true)), .read, .load false 1 (.tmp 108)⟩ (.alt ⟨(some 110), (some (103, true)), .act, .call 45 [(.tmp 109)]⟩ (.step ⟨(some 111), (some (103, true)), .pure, .toStr (.tmp 110)⟩ (.step ⟨(some 112), (some (103, true)), .pure, .eq false .str (.tmp 107) (.tmp 111)⟩ (.step ⟨(some 113), none, .pure, .pick (.tmp 103) (.tmp 112) (.const (.bool false))⟩ (.step ⟨(some 114), none, .pure, .mv (.tmp 113)⟩ (.step ⟨(some 115), (some (114, true)), .pure, .mv (.tmp 14)⟩ (.step ⟨(some 116), (some (114, true)), .pure, .mv (.tmp 14)⟩ (.step ⟨(some 119), (some (114, true)), .pure, .mv (.tmp 9)⟩ (.step ⟨(some 120), (some (114, true)), .pure, .mv (.tmp 9)⟩ (.alt ⟨(some 117), (some (114, true)), .act, .call 16 [(.tmp 116)]⟩ (.alt ⟨(some 118), (some (114, true)), .act, .call 15 [(.tmp 115), (.tmp 117), (.const (.int .i64 100))]⟩ (.alt ⟨(some 121), (some (114, true)), .act, .call 16 [(.tmp 120)]⟩ (.alt ⟨(some 122), (some (114, true)), .act, .call 15 [(.tmp 119), (.tmp 121), (.const (.int .i64 100))]⟩ (.alt ⟨(some 123), (some (114, true)), .act, .call 17 [(.tmp 118), (.tmp 122)]⟩ (.step ⟨(some 124), none, .pure, .pick (.tmp 114) (.tmp 123) (.const (.bool false))⟩ (.step ⟨(some 6), none, .pure, .mv (.tmp 124)⟩ .done))
    .stop)
    .stop)
    .stop)
    .stop)
    .stop)))))))))
    .stop)))
    (.alt ⟨(some 109), (some (103, true)), .read, .load false 1 (.tmp 108)⟩ (.alt ⟨(some 106), (some (103, true)), .act, .call 45 [(.tmp 105)]⟩ (.step ⟨(some 107), (some (103, true)), .pure, .toStr (.tmp 106)⟩ (.alt ⟨(some 110), (some (103, true)), .act, .call 45 [(.tmp 109)]⟩ (.step ⟨(some 111), (some (103, true)), .pure, .toStr (.tmp 110)⟩ (.step ⟨(some 112), (some (103, true)), .pure, .eq false .str (.tmp 107) (.tmp 111)⟩ (.step ⟨(some 113), none, .pure, .pick (.tmp 103) (.tmp 112) (.const (.bool false))⟩ (.step ⟨(some 114), none, .pure, .mv (.tmp 113)⟩ (.step ⟨(some 115), (some (114, true)), .pure, .mv (.tmp 14)⟩ (.step ⟨(some 116), (some (114, true)), .pure, .mv (.tmp 14)⟩ (.step ⟨(some 119), (some (114, true)), .pure, .mv (.tmp 9)⟩ (.step ⟨(some 120), (some (114, true)), .pure, .mv (.tmp 9)⟩ (.alt ⟨(some 117), (some (114, true)), .act, .call 16 [(.tmp 116)]⟩ (.alt ⟨(some 118), (some (114, true)), .act, .call 15 [(.tmp 115), (.tmp 117), (.const (.int .i64 100))]⟩ (.alt ⟨(some 121), (some (114, true)), .act, .call 16 [(.tmp 120)]⟩ (.alt ⟨(some 122), (some (114, true)), .act, .call 15 [(.tmp 119), (.tmp 121), (.const (.int .i64 100))]⟩ (.alt ⟨(some 123), (some (114, true)), .act, .call 17 [(.tmp 118), (.tmp 122)]⟩ (.step ⟨(some 124), none, .pure, .pick (.tmp 114) (.tmp 123) (.const (.bool false))⟩ (.step ⟨(some 6), none, .pure, .mv (.tmp 124)⟩ .done))
    .stop)
    .stop)
    .stop)
    .stop)
    .stop)))))))))
    .stop))
    .stop)
    .stop))))))))))))))))))))))))))))
  .ret))))))))))))
theorem res9 : ∃ c, Try.f9.body = some c ∧ resCodeM Try.prog 125 md9 c = some r9 := ⟨_, rfl, by kernel_rfl⟩
theorem rr9 : resRes Try.prog Try.f9.results.toList = some [.tmp 6] := by kernel_rfl
abbrev recC (rs : List (List UInt8)) (c : Cap) : AV := .sl 1 (rs.map fun b => [bysC b .ro]) c
theorem recs_loop (l : List Entry) (hl : l.length ≤ 1000) (hent : ∀ e ∈ l, (-9223372036854775808 ≤ e.kind ∧ e.kind ≤ 9223372036854775807) ∧ e.data.length ≤ 100000) (rs : List (List UInt8)) (hrs : rs.length ≤ 10) (h₀ : AHeap) (p3 p4 p9 : Nat) (k : List RT) (Q : AV → AHeap → Prop)
    (hk : ∀ h c, Grow h₀ h c → (∀ x cs, h₀ x = some (.box cs) → h x = some (.box cs)) → RRun Try.prog Try.f9 125 k (Env.get [(3, ptr p3), (4, ptr p4), (9, ptr p9), (10, recC (rs ++ l.map putE) c)]) h Q) : ∀ (m i : Nat) (h : AHeap) (c : Cap), i + m = l.length → Grow h₀ h c → (∀ x cs, h₀ x = some (.box cs) → h x = some (.box cs)) →
    RRun Try.prog Try.f9 125 (.inLoop r9l0 :: .inBlock 0 :: k) (Env.get [(3, ptr p3), (4, ptr p4), (9, ptr p9), (10, recC (rs ++ (l.take i).map putE) c), (55, entries l), (56, i64 l.length), (57, i64 i)]) h Q := by
  intro m
  induction m with
  | zero =>
    intro i h c hi hg hb0
    rw [List.take_of_length_le (by omega)]
    refine RRun.inLoop ?_
    repeat' (first | refine S.nilK ?_ | (refine S.op rfl ?_; first | ((first | refine S.lss rfl rfl ?_ ?_) <;> intro hlt <;> try (exfalso; omega))) | refine S.seq ?_ | refine S.region ?_ | refine S.condF rfl ?_ | refine RRun.exit rfl ?_)
    exact S.keep [3, 4, 9, 10] rfl (hk h c hg hb0)
  | succ m ih =>
    intro i h c hi hg hb0
    have hie : i < l.length := by omega
    have h1 : (l.map Entry.cells)[((i : Nat) : Int).toNat]? = some l[i].cells := by simp [hie]
    have hmem := hent _ (List.getElem_mem hie)
    have c41 := fun h => putEntry_spec l[i] hmem.1 hmem.2 h
    have hlen0 : (l.map Entry.cells).length = l.length := by simp
    have hlen : ((rs ++ (l.take i).map putE).map fun b => [bysC b .ro]).length = rs.length + i := by simp; omega
    have hnext : ((rs ++ (l.take i).map putE).map fun b => [bysC b .ro]) ++ [[bysC (putE l[i]) .ro]] = (rs ++ (l.take (i + 1)).map putE).map fun b => [bysC b .ro] := by
      rw [List.take_add_one, List.getElem?_eq_getElem hie]; simp only [List.map_append, List.append_assoc, List.map_cons, List.map_nil, Option.toList]
    refine RRun.inLoop ?_
    repeat' (first | refine S.nilK ?_ | (refine S.op rfl ?_; first | refine R.indexAddr rfl rfl (by omega) h1 ?_ | refine callS rfl rfl (c41 _) ?_ | refine R.mv rfl ?_ | refine R.loadR rfl rfl ?_ | refine R.load (by decide) rfl (by (repeat' (first | exact AHeap.set_same _ _ _)); first | done | fail) rfl ?_ | refine R.alloc rfl (fun b hb => ?_) | refine R.buildSl rfl rfl rfl (by decide) ?_ | ((first | refine S.lss rfl rfl ?_ ?_) <;> intro hlt <;> try (exfalso; omega))) | (refine S.op0 rfl ?_; first | refine S.storeS rfl rfl rfl (by rfl) rfl (by first | decide | exact Nat.le_refl _ | exact Nat.le_of_ble_eq_true rfl) ?_) | refine S.seq ?_ | refine S.region ?_ | refine S.condT rfl ?_ | refine RRun.skip ?_ | refine RRun.block ?_)
    refine S.op rfl (S.appendG rfl (hg.base _ (by assumption)) rfl (.sl _ _) rfl (.sl [[bysC (putE l[i]) .ro]] _) ?_ ?_ ?_ (fun c' h' hg' hbox => ?_))
    · intro e he a ha
      simp at he; subst he; simp at ha; subst ha; rfl
    · rw [hlen]; simp; omega
    · rw [hlen]; simp; omega
    repeat' (first | refine S.nilK ?_ | (refine S.op rfl ?_; first | refine R.mv rfl ?_ | refine S.addI rfl rfl (by omega) ?_) | refine S.region ?_ | refine RRun.inBlock ?_)
    rw [hnext, show ((i : Int) + 1) = ((i + 1 : Nat) : Int) by omega]
    refine S.keep [3, 4, 9, 10, 55, 56, 57] rfl (ih (i + 1) _ c' (by omega) hg' (fun x cs hx => hbox x cs ?_))
    have := hb0 x cs hx
    rw [AHeap.set_other]
    · exact this
    · intro e; subst e; simp_all
def r9e : RCode :=
  (.seq (.regionT (.step ⟨(some 82), none, .pure, .fieldAddr 0 (.tmp 16)⟩ (.step ⟨(some 83), none, .read, .load false 1 (.tmp 82)⟩ (.step ⟨(some 84), none, .pure, .fieldAddr 0 (.tmp 4)⟩ (.step ⟨(some 85), none, .read, .load false 1 (.tmp 84)⟩ (.step ⟨(some 86), none, .pure, .eq false .int (.tmp 83) (.tmp 85)⟩ (.step ⟨(some 87), none, .pure, .mv (.tmp 86)⟩ (.step ⟨(some 88), (some (87, true)), .pure, .fieldAddr 1 (.tmp 16)⟩ (.step ⟨(some 89), (some (87, true)), .read, .load false 1 (.tmp 88)⟩ (.step ⟨(some 90), (some (87, true)), .pure, .fieldAddr 1 (.tmp 4)⟩ (.step ⟨(some 91), (some (87, true)), .read, .load false 1 (.tmp 90)⟩ (.step ⟨(some 92), (some (87, true)), .pure, .eq false .int (.tmp 89) (.tmp 91)⟩ (.step ⟨(some 93), none, .pure, .pick (.tmp 87) (.tmp 92) (.const (.bool false))⟩ (.step ⟨(some 94), none, .pure, .mv (.tmp 93)⟩ (.step ⟨(some 95), (some (94, true)), .pure, .fieldAddr 3 (.tmp 16)⟩ (.step ⟨(some 96), (some (94, true)), .read, .load false 1 (.tmp 95)⟩ (.step ⟨(some 97), (some (94, true)), .pure, .toStr (.tmp 96)⟩ (.step ⟨(some 98), (some (94, true)), .pure, .fieldAddr 3 (.tmp 4)⟩ (.step ⟨(some 99), (some (94, true)), .read, .load false 1 (.tmp 98)⟩ (.step ⟨(some 100), (some (94, true)), .pure, .toStr (.tmp 99)⟩ (.step ⟨(some 101), (some (94, true)), .pure, .eq false .str (.tmp 97) (.tmp 100)⟩ (.step ⟨(some 102), none, .pure, .pick (.tmp 94) (.tmp 101) (.const (.bool false))⟩ (.step ⟨(some 103), none, .pure, .mv (.tmp 102)⟩ (.step ⟨(some 104), (some (103, true)), .pure, .fieldAddr 2 (.tmp 16)⟩ (.step ⟨(some 105), (some (103, true)), .read, .load false 1 (.tmp 104)⟩ (.step ⟨(some 108), (some (103, true)), .pure, .fieldAddr 2 (.tmp 4)⟩ (.alt ⟨(some 106), (some (103, true)), .act, .call 45 [(.tmp 105)]⟩ (.step ⟨(some 107), (some (103, true)), .pure, .toStr (.tmp 106)⟩ (.step ⟨(some 109), (some (103, true)), .read, .load false 1 (.tmp 108)⟩ (.alt ⟨(some 110), (some (103, true)), .act, .call 45 [(.tmp 109)]⟩ (.step ⟨(some 111), (some (103, true)), .pure, .toStr (.tmp 110)⟩ (.step ⟨(some 112), (some (103, true)), .pure, .eq false .str (.tmp 107) (.tmp 111)⟩ (.step ⟨(some 113), none, .pure, .pick (.tmp 103) (.tmp 112) (.const (.bool false))⟩ (.step ⟨(some 114), none, .pure, .mv (.tmp 113)⟩ (.step ⟨(some 115), (some (114, true)), .pure, .mv (.tmp 14)⟩ (.step ⟨(some 116), (some (114, true)), .pure, .mv (.tmp 14)⟩ (.step ⟨(some 119), (some (114, true)), .pure, .mv (.tmp 9)⟩ (.step ⟨(some 120), (some (114, true)), .pure, .mv (.tmp 9)⟩ (.alt ⟨(some 117), (some (114, true)), .act, .call 16 [(.tmp 116)]⟩ (.alt ⟨(some 118), (some (114, true)), .act, .call 15 [(.tmp 115), (.tmp 117), (.const (.int .i64 100))]⟩ (.alt ⟨(some 121), (some (114, true)), .act, .call 16 [(.tmp 120)]⟩ (.alt ⟨(some 122), (some (114, true)), .act, .call 15 [(.tmp 119), (.tmp 121), (.const (.int .i64 100))]⟩ (.alt ⟨(some 123), (some (114, true)), .act, .call 17 [(.tmp 118), (.tmp 122)]⟩ (.step ⟨(some 124), none, .pure, .pick (.tmp 114) (.tmp 123) (.const (.bool false))⟩ (.step ⟨(some 6), none, .pure, .mv (.tmp 124)⟩ .done))
    .stop)
    .stop)
    .stop)
    .stop)
    .stop)))))))))
    .stop)))
    (.alt ⟨(some 109), (some (103, true)), .read, .load false 1 (.tmp 108)⟩ (.alt ⟨(some 106), (some (103, true)), .act, .call 45 [(.tmp 105)]⟩ (.step ⟨(some 107), (some (103, true)), .pure, .toStr (.tmp 106)⟩ (.alt ⟨(some 110), (some (103, true)), .act, .call 45 [(.tmp 109)]⟩ (.step ⟨(some 111), (some (103, true)), .pure, .toStr (.tmp 110)⟩ (.step ⟨(some 112), (some (103, true)), .pure, .eq false .str (.tmp 107) (.tmp 111)⟩ (.step ⟨(some 113), none, .pure, .pick (.tmp 103) (.tmp 112) (.const (.bool false))⟩ (.step ⟨(some 114), none, .pure, .mv (.tmp 113)⟩ (.step ⟨(some 115), (some (114, true)), .pure, .mv (.tmp 14)⟩ (.step ⟨(some 116), (some (114, true)), .pure, .mv (.tmp 14)⟩ (.step ⟨(some 119), (some (114, true)), .pure, .mv (.tmp 9)⟩ (.step ⟨(some 120), (some (114, true)), .pure, .mv (.tmp 9)⟩ (.alt ⟨(some 117), (some (114, true)), .act, .call 16 [(.tmp 116)]⟩ (.alt ⟨(some 118), (some (114, true)), .act, .call 15 [(.tmp 115), (.tmp 117), (.const (.int .i64 100))]⟩ (.alt ⟨(some 121), (some (114, true)), .act, .call 16 [(.tmp 120)]⟩ (.alt ⟨(some 122), (some (114, true)), .act, .call 15 [(.tmp 119), (.tmp 121), (.const (.int .i64 100))]⟩ (.alt ⟨(some 123), (some (114, true)), .act, .call 17 [(.tmp 118), (.tmp 122)]⟩ (.step ⟨(some 124), none, .pure, .pick (.tmp 114) (.tmp 123) (.const (.bool false))⟩ (.step ⟨(some 6), none, .pure, .mv (.tmp 124)⟩ .done))
    .stop)
    .stop)
    .stop)
    .stop)
    .stop)))))))))
    .stop))
    .stop)
    .stop))))))))))))))))))))))))))))
  .ret)
theorem r9e_ok (ix st : UInt64) (ms M : List UInt64) (hms : ms.length ≤ 49) (hM : M.length ≤ 49) (hMm : putM M = putM ms) (sd : List UInt8) (l : List Entry) (hl : l.length ≤ 100) (hd : ∀ e ∈ l, e.data.length ≤ 100000) (hix : ix.toNat ≤ 2305843009213693952) (d d' : UInt64) (b16 b4 q p : Nat) (h : AHeap) (Q : AV → AHeap → Prop)
    (e16 : h b16 = some (.box [enc ix, enc st, u64s M, bysC sd .ro])) (e4 : h b4 = some (.box [enc ix, enc st, u64s ms, bysC sd .ro])) (eq : h q = some (.box (Log.cells ⟨⟨ix, st, M, sd⟩, l, d, false⟩))) (ep : h p = some (.box (Log.cells ⟨⟨ix, st, ms, sd⟩, l, d', false⟩))) (hQ : Q (bl true) h) :
    RRun Try.prog Try.f9 125 [.code r9e] (Env.get [(4, ptr b4), (9, ptr p), (14, ptr q), (16, ptr b16)]) h Q := by
  have c1 := fun h => putMembers_spec ms hms h
  have c2 := fun h => putMembers_spec M hM h
  rw [hMm] at c2
  have hfar : ix ≤ far := UInt64.le_iff_toNat_le.2 (Nat.le_trans hix (by decide))
  have c3 := first_spec ⟨⟨ix, st, M, sd⟩, l, d, false⟩ q h eq
  have c4 := first_spec ⟨⟨ix, st, ms, sd⟩, l, d', false⟩ p h ep
  have hd' : ∀ e ∈ l, e.data.length ≤ 140737488355328 := fun e he => Nat.le_trans (hd e he) (by decide)
  have c5 := entries_spec ⟨⟨ix, st, M, sd⟩, l, d, false⟩ hd' (by simp only; omega) (by simp only; omega) (ix + 1) 100 (by decide) q h eq
  have c6 := entries_spec ⟨⟨ix, st, ms, sd⟩, l, d', false⟩ hd' (by simp only; omega) (by simp only; omega) (ix + 1) 100 (by decide) p h ep
  rw [at_all ⟨⟨ix, st, M, sd⟩, l, d, false⟩ hfar hl] at c5
  rw [at_all ⟨⟨ix, st, ms, sd⟩, l, d', false⟩ hfar hl] at c6
  have c7 := same_spec l (by omega) h
  unfold r9e
  simp only at c3 c4 c5 c6
  repeat' (first | refine S.nilK ?_ | (refine S.op rfl ?_; first | refine callS rfl rfl (c1 _) ?_ | refine callS rfl rfl (c2 _) ?_ | refine callS rfl rfl c3 ?_ | refine callS rfl rfl c4 ?_ | refine callS rfl rfl c5 ?_ | refine callS rfl rfl c6 ?_ | refine callS rfl rfl c7 ?_ | refine S.toStrS rfl ?_ | refine S.eqStrSame rfl rfl ?_ | refine S.eqIntSame rfl rfl ?_ | refine R.mv rfl ?_ | refine R.fieldAddr rfl ?_ | refine R.load (by decide) rfl (by (repeat' (first | assumption)); first | done | fail) rfl ?_ | refine R.pickT rfl rfl ?_) | refine S.seq ?_ | refine S.regionT ?_ | refine S.talt ?_ ?_ | exact S.tstop | refine S.tdone ?_)
  all_goals
    apply S.ret rr9
    case hx => repeat (first | exact ResAt.nil | apply ResAt.tmp rfl)
    exact hQ
end Go.Proofs.Ytnmgamcmjjngcaa

namespace Go.Av
theorem ALes.trans {xs ys zs : List AV} (h1 : ALes xs ys) (h2 : ALes ys zs) : ALes xs zs := by
  induction h1 generalizing zs with
  | nil => exact h2
  | cons a b ih => cases h2 with | cons c d => exact .cons (a.trans c) (ih d)
theorem BLe.trans {x y z : ABlk} (h1 : BLe x y) (h2 : BLe y z) : BLe x z := by
  cases h1 with
  | refl => exact h2
  | box a => cases h2 with
    | refl => exact .box a
    | box b => exact .box (a.trans b)
theorem AHeap.le.trans {a b c : AHeap} (h1 : a.le b) (h2 : b.le c) : a.le c := fun x o e => by
  obtain ⟨o1, e1, l1⟩ := h1 x o e
  obtain ⟨o2, e2, l2⟩ := h2 x o1 e1
  exact ⟨o2, e2, l2.trans l1⟩
end Go.Av
namespace Go.Proofs.Ytnmgamcmjjngcaa
open Go.Av
theorem copied_of (s : Snap) (hs : s.index.toNat ≤ 2305843009213693952) : s.copied = s := by
  unfold Snap.copied
  rw [if_neg]
  intro h
  have := UInt64.lt_iff_toNat_lt.1 h
  have h4 : far.toNat = 4611686018427387904 := rfl
  omega
def r9r : RCode :=
  (.seq (.seq (.region [
    ⟨(some 52), none, .act, .mv (.tmp 9)⟩,
    ⟨(some 53), none, .act, .mv (.tmp 9)⟩,
    ⟨(some 54), none, .act, .call 16 [(.tmp 53)]⟩,
    ⟨(some 55), none, .act, .call 15 [(.tmp 52), (.tmp 54), (.const (.int .i64 100))]⟩,
    ⟨(some 56), none, .act, .len (.tmp 55)⟩,
    ⟨(some 57), none, .act, .mv (.const (.int .i64 0))⟩])
  (.block 0
   (.loop r9l0)))
  (.seq (.region [
    ⟨(some 68), none, .act, .mv (.tmp 10)⟩,
    ⟨(some 69), none, .act, .call 48 [(.tmp 68)]⟩,
    ⟨(some 67), none, .act, .mv (.tmp 69)⟩,
    ⟨(some 70), none, .act, .extract (.tmp 67) 0⟩,
    ⟨(some 71), none, .act, .extract (.tmp 67) 1⟩,
    ⟨(some 72), none, .act, .extract (.tmp 67) 2⟩,
    ⟨(some 13), none, .act, .alloc [(.int .u64 0), (.int .u64 0)]⟩,
    ⟨none, none, .act, .store 2 (.tmp 13) (.tmp 70)⟩,
    ⟨(some 14), none, .act, .mv (.tmp 71)⟩,
    ⟨(some 15), none, .act, .mv (.tmp 72)⟩])
  (.seq (.seq (.region [
    ⟨(some 73), none, .act, .mv (.tmp 15)⟩,
    ⟨(some 74), none, .act, .eq true .int (.tmp 73) (.const (.int .i64 0))⟩,
    ⟨(some 75), none, .act, .mv (.tmp 74)⟩,
    ⟨(some 76), (some (75, false)), .act, .load true 2 (.tmp 13)⟩,
    ⟨(some 77), (some (75, false)), .act, .load true 2 (.tmp 3)⟩,
    ⟨(some 78), (some (75, false)), .act, .eq true (.agg [(0, .int), (1, .int)]) (.tmp 76) (.tmp 77)⟩,
    ⟨(some 79), none, .act, .pick (.tmp 75) (.const (.bool true)) (.tmp 78)⟩])
  (.cond (.tmp 79)
   (.seq (.region [
     ⟨(some 6), none, .act, .mv (.const (.bool false))⟩])
   .ret)
   .skip))
  (.seq (.region [
    ⟨(some 80), none, .act, .mv (.tmp 14)⟩,
    ⟨(some 81), none, .act, .call 49 [(.tmp 80)]⟩,
    ⟨(some 16), none, .act, .alloc [(.int .u64 0), (.int .u64 0), (.slice none 0 0), (.slice none 0 0)]⟩,
    ⟨none, none, .act, .store 4 (.tmp 16) (.tmp 81)⟩])
  (.seq (.regionT (.step ⟨(some 82), none, .pure, .fieldAddr 0 (.tmp 16)⟩ (.step ⟨(some 83), none, .read, .load false 1 (.tmp 82)⟩ (.step ⟨(some 84), none, .pure, .fieldAddr 0 (.tmp 4)⟩ (.step ⟨(some 85), none, .read, .load false 1 (.tmp 84)⟩ (.step ⟨(some 86), none, .pure, .eq false .int (.tmp 83) (.tmp 85)⟩ (.step ⟨(some 87), none, .pure, .mv (.tmp 86)⟩ (.step ⟨(some 88), (some (87, true)), .pure, .fieldAddr 1 (.tmp 16)⟩ (.step ⟨(some 89), (some (87, true)), .read, .load false 1 (.tmp 88)⟩ (.step ⟨(some 90), (some (87, true)), .pure, .fieldAddr 1 (.tmp 4)⟩ (.step ⟨(some 91), (some (87, true)), .read, .load false 1 (.tmp 90)⟩ (.step ⟨(some 92), (some (87, true)), .pure, .eq false .int (.tmp 89) (.tmp 91)⟩ (.step ⟨(some 93), none, .pure, .pick (.tmp 87) (.tmp 92) (.const (.bool false))⟩ (.step ⟨(some 94), none, .pure, .mv (.tmp 93)⟩ (.step ⟨(some 95), (some (94, true)), .pure, .fieldAddr 3 (.tmp 16)⟩ (.step ⟨(some 96), (some (94, true)), .read, .load false 1 (.tmp 95)⟩ (.step ⟨(some 97), (some (94, true)), .pure, .toStr (.tmp 96)⟩ (.step ⟨(some 98), (some (94, true)), .pure, .fieldAddr 3 (.tmp 4)⟩ (.step ⟨(some 99), (some (94, true)), .read, .load false 1 (.tmp 98)⟩ (.step ⟨(some 100), (some (94, true)), .pure, .toStr (.tmp 99)⟩ (.step ⟨(some 101), (some (94, true)), .pure, .eq false .str (.tmp 97) (.tmp 100)⟩ (.step ⟨(some 102), none, .pure, .pick (.tmp 94) (.tmp 101) (.const (.bool false))⟩ (.step ⟨(some 103), none, .pure, .mv (.tmp 102)⟩ (.step ⟨(some 104), (some (103, true)), .pure, .fieldAddr 2 (.tmp 16)⟩ (.step ⟨(some 105), (some (103, true)), .read, .load false 1 (.tmp 104)⟩ (.step ⟨(some 108), (some (103, true)), .pure, .fieldAddr 2 (.tmp 4)⟩ (.alt ⟨(some 106), (some (103, true)), .act, .call 45 [(.tmp 105)]⟩ (.step ⟨(some 107), (some (103, true)), .pure, .toStr (.tmp 106)⟩ (.step ⟨(some 109), (some (103, true)), .read, .load false 1 (.tmp 108)⟩ (.alt ⟨(some 110), (some (103, true)), .act, .call 45 [(.tmp 109)]⟩ (.step ⟨(some 111), (some (103, true)), .pure, .toStr (.tmp 110)⟩ (.step ⟨(some 112), (some (103, true)), .pure, .eq false .str (.tmp 107) (.tmp 111)⟩ (.step ⟨(some 113), none, .pure, .pick (.tmp 103) (.tmp 112) (.const (.bool false))⟩ (.step ⟨(some 114), none, .pure, .mv (.tmp 113)⟩ (.step ⟨(some 115), (some (114, true)), .pure, .mv (.tmp 14)⟩ (.step ⟨(some 116), (some (114, true)), .pure, .mv (.tmp 14)⟩ (.step ⟨(some 119), (some (114, true)), .pure, .mv (.tmp 9)⟩ (.step ⟨(some 120), (some (114, true)), .pure, .mv (.tmp 9)⟩ (.alt ⟨(some 117), (some (114, true)), .act, .call 16 [(.tmp 116)]⟩ (.alt ⟨(some 118), (some (114, true)), .act, .call 15 [(.tmp 115), (.tmp 117), (.const (.int .i64 100))]⟩ (.alt ⟨(some 121), (some (114, true)), .act, .call 16 [(.tmp 120)]⟩ (.alt ⟨(some 122), (some (114, true)), .act, .call 15 [(.tmp 119), (.tmp 121), (.const (.int .i64 100))]⟩ (.alt ⟨(some 123), (some (114, true)), .act, .call 17 [(.tmp 118), (.tmp 122)]⟩ (.step ⟨(some 124), none, .pure, .pick (.tmp 114) (.tmp 123) (.const (.bool false))⟩ (.step ⟨(some 6), none, .pure, .mv (.tmp 124)⟩ .done))
    .stop)
    .stop)
    .stop)
    .stop)
    .stop)))))))))
    .stop)))
    (.alt ⟨(some 109), (some (103, true)), .read, .load false 1 (.tmp 108)⟩ (.alt ⟨(some 106), (some (103, true)), .act, .call 45 [(.tmp 105)]⟩ (.step ⟨(some 107), (some (103, true)), .pure, .toStr (.tmp 106)⟩ (.alt ⟨(some 110), (some (103, true)), .act, .call 45 [(.tmp 109)]⟩ (.step ⟨(some 111), (some (103, true)), .pure, .toStr (.tmp 110)⟩ (.step ⟨(some 112), (some (103, true)), .pure, .eq false .str (.tmp 107) (.tmp 111)⟩ (.step ⟨(some 113), none, .pure, .pick (.tmp 103) (.tmp 112) (.const (.bool false))⟩ (.step ⟨(some 114), none, .pure, .mv (.tmp 113)⟩ (.step ⟨(some 115), (some (114, true)), .pure, .mv (.tmp 14)⟩ (.step ⟨(some 116), (some (114, true)), .pure, .mv (.tmp 14)⟩ (.step ⟨(some 119), (some (114, true)), .pure, .mv (.tmp 9)⟩ (.step ⟨(some 120), (some (114, true)), .pure, .mv (.tmp 9)⟩ (.alt ⟨(some 117), (some (114, true)), .act, .call 16 [(.tmp 116)]⟩ (.alt ⟨(some 118), (some (114, true)), .act, .call 15 [(.tmp 115), (.tmp 117), (.const (.int .i64 100))]⟩ (.alt ⟨(some 121), (some (114, true)), .act, .call 16 [(.tmp 120)]⟩ (.alt ⟨(some 122), (some (114, true)), .act, .call 15 [(.tmp 119), (.tmp 121), (.const (.int .i64 100))]⟩ (.alt ⟨(some 123), (some (114, true)), .act, .call 17 [(.tmp 118), (.tmp 122)]⟩ (.step ⟨(some 124), none, .pure, .pick (.tmp 114) (.tmp 123) (.const (.bool false))⟩ (.step ⟨(some 6), none, .pure, .mv (.tmp 124)⟩ .done))
    .stop)
    .stop)
    .stop)
    .stop)
    .stop)))))))))
    .stop))
    .stop)
    .stop))))))))))))))))))))))))))))
  .ret)))))
def r9s : RCode :=
  (.seq (.seq (.region [
    ⟨(some 73), none, .act, .mv (.tmp 15)⟩,
    ⟨(some 74), none, .act, .eq true .int (.tmp 73) (.const (.int .i64 0))⟩,
    ⟨(some 75), none, .act, .mv (.tmp 74)⟩,
    ⟨(some 76), (some (75, false)), .act, .load true 2 (.tmp 13)⟩,
    ⟨(some 77), (some (75, false)), .act, .load true 2 (.tmp 3)⟩,
    ⟨(some 78), (some (75, false)), .act, .eq true (.agg [(0, .int), (1, .int)]) (.tmp 76) (.tmp 77)⟩,
    ⟨(some 79), none, .act, .pick (.tmp 75) (.const (.bool true)) (.tmp 78)⟩])
  (.cond (.tmp 79)
   (.seq (.region [
     ⟨(some 6), none, .act, .mv (.const (.bool false))⟩])
   .ret)
   .skip))
  (.seq (.region [
    ⟨(some 80), none, .act, .mv (.tmp 14)⟩,
    ⟨(some 81), none, .act, .call 49 [(.tmp 80)]⟩,
    ⟨(some 16), none, .act, .alloc [(.int .u64 0), (.int .u64 0), (.slice none 0 0), (.slice none 0 0)]⟩,
    ⟨none, none, .act, .store 4 (.tmp 16) (.tmp 81)⟩])
  (.seq (.regionT (.step ⟨(some 82), none, .pure, .fieldAddr 0 (.tmp 16)⟩ (.step ⟨(some 83), none, .read, .load false 1 (.tmp 82)⟩ (.step ⟨(some 84), none, .pure, .fieldAddr 0 (.tmp 4)⟩ (.step ⟨(some 85), none, .read, .load false 1 (.tmp 84)⟩ (.step ⟨(some 86), none, .pure, .eq false .int (.tmp 83) (.tmp 85)⟩ (.step ⟨(some 87), none, .pure, .mv (.tmp 86)⟩ (.step ⟨(some 88), (some (87, true)), .pure, .fieldAddr 1 (.tmp 16)⟩ (.step ⟨(some 89), (some (87, true)), .read, .load false 1 (.tmp 88)⟩ (.step ⟨(some 90), (some (87, true)), .pure, .fieldAddr 1 (.tmp 4)⟩ (.step ⟨(some 91), (some (87, true)), .read, .load false 1 (.tmp 90)⟩ (.step ⟨(some 92), (some (87, true)), .pure, .eq false .int (.tmp 89) (.tmp 91)⟩ (.step ⟨(some 93), none, .pure, .pick (.tmp 87) (.tmp 92) (.const (.bool false))⟩ (.step ⟨(some 94), none, .pure, .mv (.tmp 93)⟩ (.step ⟨(some 95), (some (94, true)), .pure, .fieldAddr 3 (.tmp 16)⟩ (.step ⟨(some 96), (some (94, true)), .read, .load false 1 (.tmp 95)⟩ (.step ⟨(some 97), (some (94, true)), .pure, .toStr (.tmp 96)⟩ (.step ⟨(some 98), (some (94, true)), .pure, .fieldAddr 3 (.tmp 4)⟩ (.step ⟨(some 99), (some (94, true)), .read, .load false 1 (.tmp 98)⟩ (.step ⟨(some 100), (some (94, true)), .pure, .toStr (.tmp 99)⟩ (.step ⟨(some 101), (some (94, true)), .pure, .eq false .str (.tmp 97) (.tmp 100)⟩ (.step ⟨(some 102), none, .pure, .pick (.tmp 94) (.tmp 101) (.const (.bool false))⟩ (.step ⟨(some 103), none, .pure, .mv (.tmp 102)⟩ (.step ⟨(some 104), (some (103, true)), .pure, .fieldAddr 2 (.tmp 16)⟩ (.step ⟨(some 105), (some (103, true)), .read, .load false 1 (.tmp 104)⟩ (.step ⟨(some 108), (some (103, true)), .pure, .fieldAddr 2 (.tmp 4)⟩ (.alt ⟨(some 106), (some (103, true)), .act, .call 45 [(.tmp 105)]⟩ (.step ⟨(some 107), (some (103, true)), .pure, .toStr (.tmp 106)⟩ (.step ⟨(some 109), (some (103, true)), .read, .load false 1 (.tmp 108)⟩ (.alt ⟨(some 110), (some (103, true)), .act, .call 45 [(.tmp 109)]⟩ (.step ⟨(some 111), (some (103, true)), .pure, .toStr (.tmp 110)⟩ (.step ⟨(some 112), (some (103, true)), .pure, .eq false .str (.tmp 107) (.tmp 111)⟩ (.step ⟨(some 113), none, .pure, .pick (.tmp 103) (.tmp 112) (.const (.bool false))⟩ (.step ⟨(some 114), none, .pure, .mv (.tmp 113)⟩ (.step ⟨(some 115), (some (114, true)), .pure, .mv (.tmp 14)⟩ (.step ⟨(some 116), (some (114, true)), .pure, .mv (.tmp 14)⟩ (.step ⟨(some 119), (some (114, true)), .pure, .mv (.tmp 9)⟩ (.step ⟨(some 120), (some (114, true)), .pure, .mv (.tmp 9)⟩ (.alt ⟨(some 117), (some (114, true)), .act, .call 16 [(.tmp 116)]⟩ (.alt ⟨(some 118), (some (114, true)), .act, .call 15 [(.tmp 115), (.tmp 117), (.const (.int .i64 100))]⟩ (.alt ⟨(some 121), (some (114, true)), .act, .call 16 [(.tmp 120)]⟩ (.alt ⟨(some 122), (some (114, true)), .act, .call 15 [(.tmp 119), (.tmp 121), (.const (.int .i64 100))]⟩ (.alt ⟨(some 123), (some (114, true)), .act, .call 17 [(.tmp 118), (.tmp 122)]⟩ (.step ⟨(some 124), none, .pure, .pick (.tmp 114) (.tmp 123) (.const (.bool false))⟩ (.step ⟨(some 6), none, .pure, .mv (.tmp 124)⟩ .done))
    .stop)
    .stop)
    .stop)
    .stop)
    .stop)))))))))
    .stop)))
    (.alt ⟨(some 109), (some (103, true)), .read, .load false 1 (.tmp 108)⟩ (.alt ⟨(some 106), (some (103, true)), .act, .call 45 [(.tmp 105)]⟩ (.step ⟨(some 107), (some (103, true)), .pure, .toStr (.tmp 106)⟩ (.alt ⟨(some 110), (some (103, true)), .act, .call 45 [(.tmp 109)]⟩ (.step ⟨(some 111), (some (103, true)), .pure, .toStr (.tmp 110)⟩ (.step ⟨(some 112), (some (103, true)), .pure, .eq false .str (.tmp 107) (.tmp 111)⟩ (.step ⟨(some 113), none, .pure, .pick (.tmp 103) (.tmp 112) (.const (.bool false))⟩ (.step ⟨(some 114), none, .pure, .mv (.tmp 113)⟩ (.step ⟨(some 115), (some (114, true)), .pure, .mv (.tmp 14)⟩ (.step ⟨(some 116), (some (114, true)), .pure, .mv (.tmp 14)⟩ (.step ⟨(some 119), (some (114, true)), .pure, .mv (.tmp 9)⟩ (.step ⟨(some 120), (some (114, true)), .pure, .mv (.tmp 9)⟩ (.alt ⟨(some 117), (some (114, true)), .act, .call 16 [(.tmp 116)]⟩ (.alt ⟨(some 118), (some (114, true)), .act, .call 15 [(.tmp 115), (.tmp 117), (.const (.int .i64 100))]⟩ (.alt ⟨(some 121), (some (114, true)), .act, .call 16 [(.tmp 120)]⟩ (.alt ⟨(some 122), (some (114, true)), .act, .call 15 [(.tmp 119), (.tmp 121), (.const (.int .i64 100))]⟩ (.alt ⟨(some 123), (some (114, true)), .act, .call 17 [(.tmp 118), (.tmp 122)]⟩ (.step ⟨(some 124), none, .pure, .pick (.tmp 114) (.tmp 123) (.const (.bool false))⟩ (.step ⟨(some 6), none, .pure, .mv (.tmp 124)⟩ .done))
    .stop)
    .stop)
    .stop)
    .stop)
    .stop)))))))))
    .stop))
    .stop)
    .stop))))))))))))))))))))))))))))
  .ret)))
theorem r9s_ok (t v ix st : UInt64) (ms M : List UInt64) (hms : ms.length ≤ 49) (hM : M.length ≤ 49) (hMm : putM M = putM ms) (sd : List UInt8) (hsd : sd.length ≤ 100000) (l : List Entry) (hl : l.length ≤ 100) (hd : ∀ e ∈ l, e.data.length ≤ 100000) (hix : ix.toNat ≤ 2305843009213693952) (d : UInt64) (b3 b4 b13 p q : Nat) (h : AHeap) (Q : AV → AHeap → Prop)
    (e3 : h b3 = some (.box [enc t, enc v])) (e13 : h b13 = some (.box [enc t, enc v])) (e4 : h b4 = some (.box [enc ix, enc st, u64s ms, bysC sd .ro])) (ep : h p = some (.box (Log.cells ⟨⟨ix, st, ms, sd⟩, l, d, false⟩))) (eq : h q = some (.box (Log.cells ⟨⟨ix, st, M, sd⟩, l, 0, false⟩))) (hQ : ∀ h', h.le h' → Q (bl true) h') :
    RRun Try.prog Try.f9 125 [.code r9s] (Env.get [(3, ptr b3), (4, ptr b4), (9, ptr p), (13, ptr b13), (14, ptr q), (15, i64 0)]) h Q := by
  have c49 := snap_spec ⟨⟨ix, st, M, sd⟩, l, 0, false⟩ (by simp only; omega) (by simp only; omega) q h eq
  rw [show Snap.cells ⟨ix, st, M, sd⟩ = [enc ix, enc st, u64s M, bysC sd .ro] from rfl] at c49
  have hag : aggEq [(0, .int), (1, .int)] [.int .u64 (t.toNat : Int), .int .u64 (v.toNat : Int)] [.int .u64 (t.toNat : Int), .int .u64 (v.toNat : Int)] = some true := by simp [aggEq, atomEq]
  unfold r9s
  repeat' (first | ((show RRun _ _ _ (.code r9e :: _) _ _ _; refine S.keep [4, 9, 14, 16] rfl (r9e_ok ix st ms M hms hM hMm sd l hl hd hix 0 d _ b4 q p _ _ (by (repeat' (first | exact AHeap.set_same _ _ _)); first | done | fail) (by (repeat' (first | assumption | refine AHeap.get_fresh ‹_› ?_)); first | done | fail) (by (repeat' (first | assumption | refine AHeap.get_fresh ‹_› ?_)); first | done | fail) (by (repeat' (first | assumption | refine AHeap.get_fresh ‹_› ?_)); first | done | fail) (hQ _ (by repeat (first | exact AHeap.le.refl _ | refine AHeap.le.set ?_ _ (by (repeat' (first | assumption)); first | done | fail))))))) | refine S.nilK ?_ | (refine S.op rfl ?_; first | refine S.eqIntSame rfl rfl ?_ | refine R.eqAgg (xs := [.int .u64 (t.toNat : Int), .int .u64 (v.toNat : Int)]) (ys := [.int .u64 (t.toNat : Int), .int .u64 (v.toNat : Int)]) rfl rfl hag ?_ | refine callS rfl rfl c49 ?_ | refine R.mv rfl ?_ | refine R.load (by decide) rfl (by (repeat' (first | assumption)); first | done | fail) rfl ?_ | refine R.pickF rfl rfl ?_ | refine R.alloc rfl (fun b hb => ?_)) | (refine S.op0 rfl ?_; first | refine S.storeS rfl rfl rfl (by rfl) rfl (by first | decide | exact Nat.le_refl _ | exact Nat.le_of_ble_eq_true rfl) ?_) | refine S.seq ?_ | refine S.region ?_ | refine S.condF rfl ?_ | refine RRun.skip ?_)
theorem r9r_ok (t v ix st : UInt64) (ms : List UInt64) (hms : ms.length ≤ 9) (hM : ofM (putM ms) = some (mems ms)) (sd : List UInt8) (hsd : sd.length ≤ 200) (hix : ix.toNat ≤ 2305843009213693952) (l : List Entry) (hl : l.length ≤ 12) (hrun : Runs ix.toNat l) (hent : ∀ e ∈ l, (-9223372036854775808 ≤ e.kind ∧ e.kind ≤ 9223372036854775807) ∧ e.data.length ≤ 100000) (d : UInt64) (b3 b4 p : Nat) (h : AHeap) (Q : AV → AHeap → Prop)
    (e3 : h b3 = some (.box [enc t, enc v])) (e4 : h b4 = some (.box [enc ix, enc st, u64s ms, bysC sd .ro])) (ep : h p = some (.box (Log.cells ⟨⟨ix, st, ms, sd⟩, l, d, false⟩))) (hQ : ∀ h', h.le h' → Q (bl true) h') :
    RRun Try.prog Try.f9 125 [.code r9r] (Env.get [(3, ptr b3), (4, ptr b4), (9, ptr p), (10, recC [putS ⟨ix, st, ms, sd⟩, putNs [1, t, v]] .full)]) h Q := by
  have hfar : ix ≤ far := UInt64.le_iff_toNat_le.2 (Nat.le_trans hix (by decide))
  have hd' : ∀ e ∈ l, e.data.length ≤ 140737488355328 := fun e he => Nat.le_trans (hent e he).2 (by decide)
  have c4 := first_spec ⟨⟨ix, st, ms, sd⟩, l, d, false⟩ p h ep
  have c6 := entries_spec ⟨⟨ix, st, ms, sd⟩, l, d, false⟩ hd' (by simp only; omega) (by simp only; omega) (ix + 1) 100 (by decide) p h ep
  rw [at_all ⟨⟨ix, st, ms, sd⟩, l, d, false⟩ hfar (by simp only; omega)] at c6
  simp only at c4 c6
  have hlen0 : (l.map Entry.cells).length = l.length := by simp
  have hml : (mems ms).length ≤ 9 := by unfold mems; simp; omega
  have hcp := copied_of ⟨ix, st, mems ms, sd⟩ hix
  have c48 : ∀ c h, ACalls Try.prog 48 [recC ([putS ⟨ix, st, ms, sd⟩, putNs [1, t, v]] ++ l.map putE) c] h (fun x h' => ∃ q, h q = none ∧ x = .tu [.ag [enc t, enc v], ptr q, i64 0] ∧ h' = h.set q (.box (Log.cells ⟨⟨ix, st, mems ms, sd⟩, l, 0, false⟩))) := fun c h =>
    ACalls.args (replay_spec ⟨ix, st, ms, sd⟩ (mems ms) hM (by simp only; omega) ⟨ix, st, mems ms, sd⟩ hcp.symm (by simp only; omega) t v l (by omega) hrun hent h) (.cons (.toRo _ _ _) .nil)
  unfold r9r
  repeat' (first | refine S.nilK ?_ | (refine S.op rfl ?_; first | refine callS rfl rfl c4 ?_ | refine callS rfl rfl c6 ?_ | refine R.mv rfl ?_ | refine R.len rfl ?_) | refine S.seq ?_ | refine S.region ?_ | refine RRun.block ?_)
  rw [hlen0]
  refine RRun.loopIn (S.keep [3, 4, 9, 10, 55, 56, 57] rfl (recs_loop l (by omega) hent [putS ⟨ix, st, ms, sd⟩, putNs [1, t, v]] (by simp) h b3 b4 p _ _ (fun h1 cc hg hb0 => ?_) l.length 0 h .full (by omega) (Grow.start h) (fun _ _ e => e)))
  have g3 := hb0 _ _ e3
  have g4 := hb0 _ _ e4
  have gp := hb0 _ _ ep
  have hle := hg.le
  repeat' (first | (refine S.op rfl ?_; first | refine R.mv rfl ?_) | refine S.seq ?_ | refine S.region ?_)
  refine S.op rfl (R.call rfl rfl ((c48 _ _).mono ?_))
  rintro _ _ ⟨q, hq, rfl, rfl⟩
  repeat' (first | ((show RRun _ _ _ (.code r9s :: _) _ _ _; refine S.keep [3, 4, 9, 13, 14, 15] rfl (r9s_ok t v ix st ms (mems ms) (by omega) (by omega) (putM_mems ms) sd (by omega) l (by omega) (fun e he => (hent e he).2) hix d b3 b4 _ p q _ _ (by (repeat' (first | assumption | refine AHeap.get_fresh ‹_› ?_)); first | done | fail) (by (repeat' (first | exact AHeap.set_same _ _ _)); first | done | fail) (by (repeat' (first | assumption | refine AHeap.get_fresh ‹_› ?_)); first | done | fail) (by (repeat' (first | assumption | refine AHeap.get_fresh ‹_› ?_)); first | done | fail) (by (repeat' (first | exact AHeap.set_same _ _ _ | refine AHeap.get_fresh ‹_› ?_)); first | done | fail) (fun h' hh => hQ _ (hle.trans (AHeap.le.trans (by repeat (first | exact AHeap.le.refl _ | refine AHeap.le.set ?_ _ (by (repeat' (first | assumption | exact AHeap.z1 ‹_›)); first | done | fail))) hh)))))) | (refine S.op rfl ?_; first | refine R.mv rfl ?_ | refine R.extract rfl rfl ?_ | refine R.alloc rfl (fun b hb => ?_)) | (refine S.op0 rfl ?_; first | refine S.storeS rfl rfl rfl (by rfl) rfl (by first | decide | exact Nat.le_refl _ | exact Nat.le_of_ble_eq_true rfl) ?_))
theorem back_spec (t v : UInt64) (s : Snap) (l : List Entry) (hl0 : l.length ≤ 9223372036854775807) (hent : ∀ e ∈ l, -9223372036854775808 ≤ e.kind ∧ e.kind ≤ 9223372036854775807) (h : AHeap) :
    ACalls Try.prog 9 [.ag [enc t, enc v], .ag s.cells, entries l] h (fun x h' => x = bl true ∧ h' = h) := by
  obtain ⟨c, hc1, hc2⟩ := res9
  refine ACalls.weak (ACalls.enter Try.func9 hc1 Try.ntmps9 hc2 (Nat.le_of_ble_eq_true rfl) rfl ?_)
  have c11 := fun h => smallSnap_spec s h
  have c12 := fun h => small_spec l hl0 h
  cases h1 : s.small with
  | false =>
    rw [h1] at c11
    repeat' (first | refine S.nilK ?_ | (refine S.op rfl ?_; first | refine callS rfl rfl (awake_spec _) ?_ | refine callS rfl rfl (c11 _) ?_ | refine R.mv rfl ?_ | refine R.load (by decide) rfl (by (repeat' (first | exact AHeap.set_same _ _ _)); first | done | fail) rfl ?_ | refine R.pickT rfl rfl ?_ | refine R.not rfl ?_ | refine R.box rfl rfl rfl (fun b hb => ?_)) | refine S.skip rfl ?_ | refine S.seq ?_ | refine S.region ?_ | refine S.condT rfl ?_ | refine S.condF rfl ?_ | refine RRun.skip ?_)
    apply S.ret rr9
    case hx => repeat (first | exact ResAt.nil | apply ResAt.tmp rfl)
    exact ⟨_, h, .refl _, (by repeat (first | exact AHeap.le.refl _ | refine AHeap.le.set ?_ _ (by (repeat' (first | assumption | exact AHeap.z1 ‹_›)); first | done | fail))), rfl, rfl⟩
  | true =>
  rw [h1] at c11
  cases h2 : small l with
  | false =>
    rw [h2] at c12
    repeat' (first | refine S.nilK ?_ | (refine S.op rfl ?_; first | refine callS rfl rfl (awake_spec _) ?_ | refine callS rfl rfl (c11 _) ?_ | refine callS rfl rfl (c12 _) ?_ | refine R.mv rfl ?_ | refine R.load (by decide) rfl (by (repeat' (first | exact AHeap.set_same _ _ _)); first | done | fail) rfl ?_ | refine R.pickT rfl rfl ?_ | refine R.pickF rfl rfl ?_ | refine R.not rfl ?_ | refine R.box rfl rfl rfl (fun b hb => ?_)) | refine S.skip rfl ?_ | refine S.seq ?_ | refine S.region ?_ | refine S.condT rfl ?_ | refine S.condF rfl ?_ | refine RRun.skip ?_)
    apply S.ret rr9
    case hx => repeat (first | exact ResAt.nil | apply ResAt.tmp rfl)
    exact ⟨_, h, .refl _, (by repeat (first | exact AHeap.le.refl _ | refine AHeap.le.set ?_ _ (by (repeat' (first | assumption | exact AHeap.z1 ‹_›)); first | done | fail))), rfl, rfl⟩
  | true =>
  rw [h2] at c12
  obtain ⟨ix, st, ms, sd⟩ := s
  simp only [Snap.small, small, Bool.and_eq_true, decide_eq_true_eq, List.all_eq_true] at h1 h2
  rw [show Snap.cells ⟨ix, st, ms, sd⟩ = [enc ix, enc st, u64s ms, bys sd] from rfl]
  by_cases h3 : 2305843009213693952 < ix.toNat
  ·
    repeat' (first | refine S.nilK ?_ | (refine S.op rfl ?_; first | refine callS rfl rfl (awake_spec _) ?_ | refine callS rfl rfl (c11 _) ?_ | refine callS rfl rfl (c12 _) ?_ | refine R.mv rfl ?_ | refine R.fieldAddr rfl ?_ | refine R.load (by decide) rfl (by (repeat' (first | exact AHeap.set_same _ _ _)); first | done | fail) rfl ?_ | refine R.pickF rfl rfl ?_ | refine R.not rfl ?_ | refine R.box rfl rfl rfl (fun b hb => ?_) | ((first | refine S.gtr rfl rfl ?_ ?_) <;> intro hlt <;> try (exfalso; omega))) | refine S.seq ?_ | refine S.region ?_ | refine S.condT rfl ?_ | refine S.condF rfl ?_ | refine RRun.skip ?_)
    apply S.ret rr9
    case hx => repeat (first | exact ResAt.nil | apply ResAt.tmp rfl)
    exact ⟨_, h, .refl _, (by repeat (first | exact AHeap.le.refl _ | refine AHeap.le.set ?_ _ (by (repeat' (first | assumption | exact AHeap.z1 ‹_›)); first | done | fail))), rfl, rfl⟩
  · have c46 := fun h => refMembers_spec ms (by omega) h
    have c38 := fun h => mof_spec (putM ms) (Nat.le_trans putM_len (by decide)) h
    unfold ofAns at c38
    cases h4 : ofM (putM ms) with
    | none =>
      rw [h4] at c38
      repeat' (first | refine S.nilK ?_ | (refine S.op rfl ?_; first | refine callS rfl rfl (awake_spec _) ?_ | refine callS rfl rfl (c11 _) ?_ | refine callS rfl rfl (c12 _) ?_ | refine callS rfl rfl (c46 _) ?_ | refine callS rfl rfl (c38 _) ?_ | refine R.eqInt rfl rfl ?_ | refine R.mv rfl ?_ | refine R.fieldAddr rfl ?_ | refine R.load (by decide) rfl (by (repeat' (first | exact AHeap.set_same _ _ _)); first | done | fail) rfl ?_ | refine R.pickF rfl rfl ?_ | refine R.not rfl ?_ | refine R.extract rfl rfl ?_ | refine R.box rfl rfl rfl (fun b hb => ?_) | ((first | refine S.gtr rfl rfl ?_ ?_) <;> intro hlt <;> try (exfalso; omega))) | refine S.seq ?_ | refine S.region ?_ | refine S.condT rfl ?_ | refine S.condF rfl ?_ | refine RRun.skip ?_)
      apply S.ret rr9
      case hx => repeat (first | exact ResAt.nil | apply ResAt.tmp rfl)
      exact ⟨_, h, .refl _, (by repeat (first | exact AHeap.le.refl _ | refine AHeap.le.set ?_ _ (by (repeat' (first | assumption | exact AHeap.z1 ‹_›)); first | done | fail))), rfl, rfl⟩
    | some M =>
      rw [h4] at c38
      have hcp := copied_of ⟨ix, st, ms, sd⟩ (by simp only; omega)
      have c13 := fun h => new_spec ⟨ix, st, ms, sd⟩ (by simp only; omega) (by simp only; omega) h
      rw [hcp] at c13
      repeat' (first | refine S.nilK ?_ | (refine S.op rfl ?_; first | refine callS rfl rfl (awake_spec _) ?_ | refine callS rfl rfl (c11 _) ?_ | refine callS rfl rfl (c12 _) ?_ | refine callS rfl rfl (c46 _) ?_ | refine callS rfl rfl (c38 _) ?_ | refine S.eqIntSame rfl rfl ?_ | refine R.mv rfl ?_ | refine R.fieldAddr rfl ?_ | refine R.load (by decide) rfl (by (repeat' (first | exact AHeap.set_same _ _ _)); first | done | fail) rfl ?_ | refine R.pickF rfl rfl ?_ | refine R.not rfl ?_ | refine R.extract rfl rfl ?_ | refine R.box rfl rfl rfl (fun b hb => ?_) | ((first | refine S.gtr rfl rfl ?_ ?_) <;> intro hlt <;> try (exfalso; omega))) | refine S.seq ?_ | refine S.region ?_ | refine S.condF rfl ?_ | refine RRun.skip ?_)
      refine S.op rfl (R.call rfl rfl ((c13 _).mono ?_))
      rintro _ _ ⟨p, hp, rfl, rfl⟩
      have hap := back_plain ⟨ix, st, ms, sd⟩ (by simp only; omega) l (by omega)
      have hMm := ofM_put h4
      subst hMm
      have c14 := fun h hh => append_spec ⟨⟨ix, st, ms, sd⟩, [], 0, false⟩ l (fun y hy => Nat.le_trans (h2.2 y hy) (by decide)) (by simp only; omega) (by simp) (by omega) p h hh
      rcases hap with ⟨g2, ⟨d, g1⟩, hrun⟩ | g2
      · rw [g1, g2] at c14
        have c43 := fun h => putSnap_spec ⟨ix, st, ms, sd⟩ (by simp only; omega) (by simp only; omega) h
        have c39 := fun h => putHard_spec t v h
        rw [show Snap.cells ⟨ix, st, ms, sd⟩ = [enc ix, enc st, u64s ms, bys sd] from rfl] at c43
        repeat' (first | ((show RRun _ _ _ (.code r9r :: _) _ _ _; refine S.keep [3, 4, 9, 10] rfl (r9r_ok t v ix st ms (by omega) h4 sd (by omega) (by omega) l (by omega) hrun (fun e he => ⟨hent e he, Nat.le_trans (h2.2 e he) (by decide)⟩) d _ _ p _ _ (by (repeat' (first | exact AHeap.set_same _ _ _ | refine AHeap.get_fresh ‹_› ?_ | refine AHeap.so ?_ ?_ | exact AHeap.n6 ‹_›)); first | done | fail) (by (repeat' (first | exact AHeap.set_same _ _ _ | refine AHeap.get_fresh ‹_› ?_ | refine AHeap.so ?_ ?_ | exact AHeap.n2 ‹_›)); first | done | fail) (by (repeat' (first | exact AHeap.set_same _ _ _)); first | done | fail) (fun h' hh => ⟨_, h, .refl _, AHeap.le.trans (by repeat (first | exact AHeap.le.refl _ | refine AHeap.le.set ?_ _ (by (repeat' (first | assumption | exact AHeap.z1 ‹_› | exact AHeap.z2 ‹_›)); first | done | fail))) hh, rfl, rfl⟩)))) | refine S.nilK ?_ | (refine S.op rfl ?_; first | refine callS rfl rfl (c14 _ (by (repeat' (first | exact AHeap.set_same _ _ _)); first | done | fail)) ?_ | refine callS rfl rfl (c43 _) ?_ | refine callS rfl rfl (c39 _) ?_ | refine S.eqIntSame rfl rfl ?_ | refine R.mv rfl ?_ | refine R.load (by decide) rfl (by (repeat' (first | exact AHeap.set_same _ _ _ | refine AHeap.get_fresh ‹_› ?_ | refine AHeap.so ?_ ?_ | exact AHeap.n2 ‹_› | exact AHeap.n6 ‹_›)); first | done | fail) rfl ?_ | refine R.buildSl rfl rfl rfl (by decide) ?_) | refine S.seq ?_ | refine S.region ?_ | refine S.regionT ?_ | refine S.talt ?_ ?_ | exact S.tstop | refine S.condF rfl ?_ | refine RRun.skip ?_)
      · rw [g2] at c14
        have c14' : ∀ h, h p = some (.box (Log.cells ⟨⟨ix, st, ms, sd⟩, [], 0, false⟩)) → ACalls Try.prog 14 [ptr p, entries l] h (fun x h' => x = i64 80 ∧ ∃ L', h' = h.set p (.box L')) := fun h hh => (c14 h hh).mono fun x h' e => ⟨e.1, _, e.2⟩
        repeat' (first | refine S.nilK ?_ | (refine S.op rfl ?_; first | refine R.mv rfl ?_) | refine S.seq ?_ | refine S.region ?_)
        refine S.op rfl (R.call rfl rfl ((c14' _ (by (repeat' (first | exact AHeap.set_same _ _ _)); first | done | fail)).mono ?_))
        rintro _ _ ⟨rfl, L', rfl⟩
        repeat' (first | refine S.nilK ?_ | (refine S.op rfl ?_; first | refine R.eqInt rfl rfl ?_ | refine R.mv rfl ?_) | refine S.seq ?_ | refine S.region ?_ | refine S.condT rfl ?_)
        apply S.ret rr9
        case hx => repeat (first | exact ResAt.nil | apply ResAt.tmp rfl)
        exact ⟨_, h, .refl _, (by repeat (first | exact AHeap.le.refl _ | refine AHeap.le.set ?_ _ (by (repeat' (first | assumption | exact AHeap.z1 ‹_› | exact AHeap.z2 ‹_›)); first | done | fail))), rfl, rfl⟩
end Go.Proofs.Ytnmgamcmjjngcaa
